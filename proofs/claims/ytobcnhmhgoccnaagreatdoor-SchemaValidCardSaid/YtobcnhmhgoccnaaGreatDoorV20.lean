/- Parts of the proof, joined: SySf. -/
import Derived.Test.YtobcnhmhgoccnaaGreatDoorV14
import Derived.Deep.OwnRows
set_option maxHeartbeats 16000000
set_option linter.unusedVariables false
set_option linter.unusedSimpArgs false
set_option linter.unusedSectionVars false
namespace Go.Proofs.YtobcnhmhgoccnaaGreatDoor
open Go Go.RowKit
theorem infoStrS:(Tryz.prog.info? 9).map (λi=>(i.zero,i.size,i.bytes))=some (some (.string ⟨#[]⟩),1,16):=by kernel_rfl
def spN:Array Value:=#[.string ⟨#[]⟩,.string ⟨#[105,100]⟩,.string ⟨#[111,102]⟩,.string ⟨#[111,116,104,101,114]⟩,.string ⟨#[85,112,112,101,114]⟩,.string ⟨#[49,97]⟩,.string ⟨#[116,104,105,114,116,101,101,110,98,121,116,101,115]⟩,.string ⟨#[97,45,98]⟩]
theorem spN_at (z:Nat) (h:z < 8):∃u:ByteArray,spN[z]?=some (.string u)/\u.size<=16:=by
 match z,h with
 | 0,_ | 1,_ | 2,_ | 3,_ | 4,_ | 5,_ | 6,_ | 7,_=>exact ⟨_,rfl,by decide⟩
 | n+8,h=>exact zU h (by omega)
def spO:Array Value:=#[.string ⟨#[]⟩,.string ⟨#[105,100]⟩,.string ⟨#[111,102]⟩,.string ⟨#[112,101,114,115,111,110]⟩,.string ⟨#[111,114,100,101,114]⟩,.string ⟨#[108,105,102,101]⟩,.string ⟨#[116,111,116,97,108]⟩,.string ⟨#[98,111,114,110]⟩,.string ⟨#[115,105,122,101]⟩]
theorem spO_at (z:Nat) (h:z < 9):∃u:ByteArray,spO[z]?=some (.string u)/\u.size<=16:=by
 match z,h with
 | 0,_ | 1,_ | 2,_ | 3,_ | 4,_ | 5,_ | 6,_ | 7,_ | 8,_=>exact ⟨_,rfl,by decide⟩
 | n+9,h=>exact zU h (by omega)
def spU:Array Value:=#[.string ⟨#[]⟩,.string ⟨#[111,102]⟩,.string ⟨#[98,121]⟩,.string ⟨#[105,100]⟩,.string ⟨#[63]⟩]
theorem spU_at (z:Nat) (h:z < 5):∃u:ByteArray,spU[z]?=some (.string u)/\u.size<=16:=by
 match z,h with
 | 0,_ | 1,_ | 2,_ | 3,_ | 4,_=>exact ⟨_,rfl,by decide⟩
 | n+5,h=>exact zU h (by omega)
def spM:Array Value:=#[.string ⟨#[109,111,114,101]⟩,.string ⟨#[114,101,100]⟩,.string ⟨#[]⟩]
theorem spM_at (z:Nat) (h:z < 3):∃u:ByteArray,spM[z]?=some (.string u)/\u.size<=16:=by
 match z,h with
 | 0,_ | 1,_ | 2,_=>exact ⟨_,rfl,by decide⟩
 | n+3,h=>exact zU h (by omega)
def spL (a:Int):Array Value:=#[.int .i64 (a - 1),.int .i64 0,.int .i64 5,.int .i64 (-1048576),.int .i64 (-1048577),.int .i64 33]
theorem spL_at (a c:Int) (hc:0<=c) (ha:-1100000 - c<=a/\a<=1100000+c) (z:Nat) (h:z < 6):∃n:Int,(spL a)[z]?=some (.int .i64 n)/\-1100000 - (c+1)<=n/\n<=1100000+(c+1):=by
 match z,h with
 | 0,_ | 1,_ | 2,_ | 3,_ | 4,_ | 5,_=>exact ⟨_,rfl,by omega,by omega⟩
 | n+6,h=>exact zU h (by omega)
def spH (a:Int):Array Value:=#[.int .i64 (a+1),.int .i64 0,.int .i64 32,.int .i64 33,.int .i64 65536,.int .i64 65537,.int .i64 1048576,.int .i64 1048577]
theorem spH_at (a c:Int) (hc:0<=c) (ha:-1100000 - c<=a/\a<=1100000+c) (z:Nat) (h:z < 8):∃n:Int,(spH a)[z]?=some (.int .i64 n)/\-1100000 - (c+1)<=n/\n<=1100000+(c+1):=by
 match z,h with
 | 0,_ | 1,_ | 2,_ | 3,_ | 4,_ | 5,_ | 6,_ | 7,_=>exact ⟨_,rfl,by omega,by omega⟩
 | n+8,h=>exact zU h (by omega)
def spW:Array Value:=#[.int .i64 1,.int .i64 0,.int .i64 (-1),.int .i64 1048576,.int .i64 1048577]
theorem spW_at (z:Nat) (h:z < 5):∃n:Int,spW[z]?=some (.int .i64 n)/\(-3000000<=n/\n<=3000000):=by
 match z,h with
 | 0,_ | 1,_ | 2,_ | 3,_ | 4,_=>exact ⟨_,rfl,by omega,by omega⟩
 | n+5,h=>exact zU h (by omega)
theorem sf_rep {M:List Nat} {nm of_ up:ByteArray} {kd lo hi:Int} {ws:List ByteArray} {ns:List Int} {A B:Option Addr} {nw nv c d:Nat} {W:World} (h1:nm.size<=1000) (h2:of_.size<=1000) (h3:up.size<=1000) (h4:inI kd) (h5:inI lo) (h6:inI hi) (e1:ws.length=nw) (e2:ns.length=nv) (k1:nw<=c) (k2:c<=9223372036854775807) (k3:nv<=d) (k4:d<=9223372036854775807) (h7:SlAt M W A ws) (h8:SlAt M W B ns) :
  Mem.rep M W ((nm,of_,up,kd,lo,hi,ws,ns):Fld) [.string nm,.string of_,.string up,.int .i64 kd,.int .i64 lo,.int .i64 hi,.slice A nw c,.slice B nv d]:=by
 subst e1 e2
 exact fld_mk (by omega) (by omega) (by omega) h4 h5 h6 ⟨A,c,rfl,k1,k2,h7⟩ ⟨B,d,rfl,k3,k4,h8⟩
def SFldP (cb:Nat) (G:List Nat) (w:World) (e:Ending) (w':World):Prop:=∃(f:Fld) (us:List Value),e=.returned (.agg us.toArray)/\Mem.rep G w' f us/\Sx.FW (cb+1) f/\Below w.heap.size w w'
def SFC (cb:Nat) (G:List Nat) (w:World) (N1:Nat) (w':World):Prop:=∃(f:Fld) (nm of_ up:ByteArray) (kd lo hi:Int) (A:Option Addr) (nw c:Nat) (B:Option Addr) (nv d:Nat),Blk w' N1 65 #[.string nm,.string of_,.string up,.int .i64 kd,.int .i64 lo,.int .i64 hi,.slice A nw c,.slice B nv d]/\Mem.rep G w' f [.string nm,.string of_,.string up,.int .i64 kd,.int .i64 lo,.int .i64 hi,.slice A nw c,.slice B nv d]/\Sx.FW (cb+1) f/\Below w.heap.size w w'
theorem sfc_mk {cb:Nat} {w W:World} {G M:List Nat} {N0 N1:Nat} {L:List (List Nat->World->Prop)} {rs:List Rw} {nm of_ up:ByteArray} {kd lo hi:Int} {f:Fld} {A B:Option Addr} {nw nv c d:Nat}
  (T:HR w G M [(N0,65,#[.string nm,.string of_,.string up,.int .i64 kd,.int .i64 lo,.int .i64 hi,.slice A nw c,.slice B nv d]),(N1,65,#[.string ⟨#[]⟩,.string ⟨#[]⟩,.string ⟨#[]⟩,.int .i64 0,.int .i64 0,.int .i64 0,.slice none 0 0,.slice none 0 0])] rs L W) (hr:Mem.rep M W f [.string nm,.string of_,.string up,.int .i64 kd,.int .i64 lo,.int .i64 hi,.slice A nw c,.slice B nv d]) (hl:Sx.FW (cb+1) f):SFC cb G w N1 ((((((((W.setCell ⟨N1,0,none⟩ (.string nm)).setCell ⟨N1,1,none⟩ (.string of_)).setCell ⟨N1,2,none⟩ (.string up)).setCell ⟨N1,3,none⟩ (.int .i64 kd)).setCell ⟨N1,4,none⟩ (.int .i64 lo)).setCell ⟨N1,5,none⟩ (.int .i64 hi)).setCell ⟨N1,6,none⟩ (.slice A nw c)).setCell ⟨N1,7,none⟩ (.slice B nv d)):=by
 have H9:=(((((((((T.add (keeps_rep f [.string nm,.string of_,.string up,.int .i64 kd,.int .i64 lo,.int .i64 hi,.slice A nw c,.slice B nv d]) hr).bswap.set0 0 (.string nm)).set0 1 (.string of_)).set0 2 (.string up)).set0 3 (.int .i64 kd)).set0 4 (.int .i64 lo)).set0 5 (.int .i64 hi)).set0 6 (.slice A nw c)).set0 7 (.slice B nv d))
 have hB:=H9.box (.head _)
 simp only [aB,aF,aG] at hB
 exact ⟨f,nm,of_,up,kd,lo,hi,A,nw,c,B,nv,d,hB,Mem.sub (H9.fact (.head _)) (λg hg=>.inl (H9.h.gm g hg)),hl,H9.h.bl⟩
set_option maxRecDepth 100000 in
theorem sfield_any {cb:Nat} (hcb:cb<=1) (f:Fld) (us:List Value) (G:List Nat) (w:World) (hG:∀g∈G,g < w.heap.size) (h:Mem.rep G w f us) (hF:Sx.FW cb f) (how by_:Int) (h1:inI how) (h2:inI by_):Calls Tryz.prog 24 #[.agg us.toArray,.int .i64 how,.int .i64 by_] w (SFldP cb G w):=by
 obtain ⟨nm,of_,up,kd,lo,hi,ws,ns⟩:=f
 obtain ⟨A,c,B,d,rfl,s1,s2,i1,i2,i3,n1,n2,n3,b1,b2,b3,b4⟩:=rep_fld h
 have fq1:=hF.nm;have fq2:=hF.of_;have fq3:=hF.up;have fq4:=hF.lo;have fq5:=hF.hi;have fq6:=hF.ws;have fq7:=hF.ns;have hkd:=hF.kd
 have HFW:=aI (hF.more (Nat.le_succ cb))
 change nm.size<=16 at fq1;change of_.size<=16 at fq2;change up.size<=16 at fq3
 change SlAt G w A ws at s1;change SlAt G w B ns at s2
 change -20<=kd/\kd<=20 at hkd
 obtain ⟨nw,hnw⟩:=aX ws.length
 obtain ⟨nv,hnv⟩:=aX ns.length
 change -1100000 - (cb:Int)<=lo/\lo<=1100000+(cb:Int) at fq4;change -1100000 - (cb:Int)<=hi/\hi<=1100000+(cb:Int) at fq5
 change ws.length<=12+cb at fq6;change ns.length<=12+cb at fq7
 change ws.length<=c at b1;change ns.length<=d at b3
 rw [hnw] at fq6 b1
 rw [hnv] at fq7 b3
 have HNW:=aI hnw;have HNV:=aI hnv
 have hh:=around_bd how 8 (by omega)
 obtain ⟨z,hz⟩:=aX (around how 8)
 have CH:=aI (λW=>around_any how 8 W h1.1 h1.2)
 rw [hz] at CH hh
 have CB:=aI (λ(k:Int) W=>around_any by_ k W h2.1 h2.2)
 have CB3:=aI (λ(k:Int) W=>around_any (by_.tdiv 3) k W (tdiv_in by_ 3 h2.1 h2.2 (by omega)).1 (tdiv_in by_ 3 h2.1 h2.2 (by omega)).2)
 have HT3:=aI (show wrap64 (by_.tdiv 3)=by_.tdiv 3 from by have:=tdiv_in by_ 3 h2.1 h2.2 (by omega);unfold wrap64;omega)
 have HBD:=aI (λ(n:Int) k (hk:1<=k)=>around_bd n k hk)
 have HG:=aI hG
 have T:=aI ((((HR.start (((held0 w G hG).add (keeps_sl B ns) s2).add (keeps_sl A ws) s1)).new #[.string nm,.string of_,.string up,.int .i64 kd,.int .i64 lo,.int .i64 hi,.slice A nw c,.slice B nv d] 65 rfl).new #[.string ⟨#[]⟩,.string ⟨#[]⟩,.string ⟨#[]⟩,.int .i64 0,.int .i64 0,.int .i64 0,.slice none 0 0,.slice none 0 0] 65 rfl).bswap)
 have HB1:=aI b1;have HB3:=aI b3
 show Calls Tryz.prog 24 #[.agg #[.string nm,.string of_,.string up,.int .i64 kd,.int .i64 lo,.int .i64 hi,.slice A ws.length c,.slice B ns.length d],.int .i64 how,.int .i64 by_] w _
 rw [hnw,hnv]
 clear h hG s1 s2 i1 i2 i3 n1 n2 n3 b1 b3 hnw hnv hF h1 h2 hz
 go_enter Tryz.func24,Tryz.ntmps24
 go_upto_region 1 with fail
 have hN1:(w.alloc (.cells #[.string nm,.string of_,.string up,.int .i64 kd,.int .i64 lo,.int .i64 hi,.slice A nw c,.slice B nv d] 65)).heap.size=w.heap.size+1:=by simp
 rw [hN1] at T
 clear hN1
 generalize (w.alloc (.cells #[.string nm,.string of_,.string up,.int .i64 kd,.int .i64 lo,.int .i64 hi,.slice A nw c,.slice B nv d] 65)).alloc (.cells #[.string ⟨#[]⟩,.string ⟨#[]⟩,.string ⟨#[]⟩,.int .i64 0,.int .i64 0,.int .i64 0,.slice none 0 0,.slice none 0 0] 65)=W2 at T ⊢
 generalize w.heap.size+1=N1 at T ⊢
 generalize w.heap.size=N0 at T ⊢
 rcases (show z=0∨z=1∨z=2∨z=3∨z=4∨z=5∨z=6∨z=7 by omega) with rfl | rfl | rfl | rfl | rfl | rfl | rfl | rfl
 .have hr:=HBD.out by_ 11 (by omega)
  have CR:=aI (CB.out 11)
  obtain ⟨r,hre⟩:=aX (around by_ 11)
  rw [hre] at CR hr
  clear hre
  have q:=T.out.box (.head _);obtain ⟨z0,z1,z2,z3,z4,z5,z6,z7⟩:=aN8 q.cell;obtain ⟨f0,f1,f2,f3,f4,f5,f6,f7⟩:=aN8 q.frozen;simp at z0 z1 z2 z3 z4 z5 z6 z7;clear q
  go_upto_region 18 with (first | (go_at_call 23;(with_reducible refine aS (CH.out _) ?_)) | (go_at_call 23;(with_reducible refine aS (CR.out _) ?_)))
  clear z0 z1 z2 z3 z4 z5 z6 z7 f0 f1 f2 f3 f4 f5 f6 f7
  have T2:=aI (show HR w G (N1::N0::G) [(N0,65,#[.string nm,.string of_,.string up,.int .i64 (r - 1),.int .i64 lo,.int .i64 hi,.slice A nw c,.slice B nv d]),(N1,65,#[.string ⟨#[]⟩,.string ⟨#[]⟩,.string ⟨#[]⟩,.int .i64 0,.int .i64 0,.int .i64 0,.slice none 0 0,.slice none 0 0])] [] [λM W=>SlAt M W A ws,λM W=>SlAt M W B ns] (W2.setCell ⟨N0,3,none⟩ (.int .i64 (r - 1))) from T.out.set0 3 _)
  clear T
  generalize W2.setCell ⟨N0,3,none⟩ (.int .i64 (r - 1))=W3 at T2 ⊢
  have q:=T2.out.box (.head _);obtain ⟨q0,q1,q2,q3,q4,q5,q6,q7⟩:=aN8 q.cell;simp at q0 q1 q2 q3 q4 q5 q6 q7;clear q
  have p:=T2.out.box (.tail _ (.head _));obtain ⟨f0,f1,f2,f3,f4,f5,f6,f7⟩:=aN8 p.frozen;obtain ⟨p0,p1,p2,p3,p4,p5,p6,p7⟩:=aN8 p.cell;simp at p0 p1 p2 p3 p4 p5 p6 p7;clear p
  go_cut [] from 7 (λw'=>SFC cb G w N1 w')
  case first =>
   go_wp2_with fail
   go_meet
   case rel=>exact sfc_mk T2.out (sf_rep (by omega) (by omega) (by omega) (by unfold inI;omega) (by unfold inI;omega) (by unfold inI;omega) HNW.out HNV.out HB1.out b2 HB3.out b4 (T2.out.fact (.head _)) (T2.out.fact (.tail _ (.head _)))) (⟨HFW.out.nm,HFW.out.of_,HFW.out.up,HFW.out.lo,HFW.out.hi,HFW.out.ws,HFW.out.ns,HFW.out.w,⟨by show -20<=r - 1;omega,by show r - 1<=20;omega⟩⟩)
  case rest =>
   obtain ⟨f9,nm9,of9,up9,kd9,lo9,hi9,A9,nw9,c9,B9,nv9,d9,q,hr9,hl9,hb9⟩:=hcut
   clear q0 q1 q2 q3 q4 q5 q6 q7
   obtain ⟨q0,q1,q2,q3,q4,q5,q6,q7⟩:=aN8 q.cell;simp at q0 q1 q2 q3 q4 q5 q6 q7;clear q
   rename_i hK
   apply hK
   refine wp_ret ?_
   (try simp only [Exit.inBlock,Exit.then])
   refine zi (v:=.agg #[.string nm9,.string of9,.string up9,.int .i64 kd9,.int .i64 lo9,.int .i64 hi9,.slice A9 nw9 c9,.slice B9 nv9 d9]) ?_ rfl ?_
   .simp [results,Tryz.results24,go_sem,q0,q1,q2,q3,q4,q5,q6,q7]
    try rfl
   .exact ⟨f9,_,rfl,hr9,hl9,hb9⟩
 .have hr:=HBD.out by_ 8 (by omega)
  have CR:=aI (CB.out 8)
  obtain ⟨r,hre⟩:=aX (around by_ 8)
  rw [hre] at CR hr
  clear hre
  obtain ⟨rn,rfl⟩:∃n:Nat,r=n:=⟨r.toNat,by omega⟩
  obtain ⟨u,hu,hu16⟩:=spN_at rn (by omega)
  have hr0:(0:Int)<=(rn:Int):=by omega
  have hr1:(rn:Int) < 8:=hr.2
  have qx:=(zj W2 9 spN).cell rn
  rw [hu] at qx
  unfold spN at qx
  clear hu
  have T3:=aI (T.out.below ((zf _ _).alloc (ag _) (.cells #[.string ⟨#[]⟩,.string ⟨#[105,100]⟩,.string ⟨#[111,102]⟩,.string ⟨#[111,116,104,101,114]⟩,.string ⟨#[85,112,112,101,114]⟩,.string ⟨#[49,97]⟩,.string ⟨#[116,104,105,114,116,101,101,110,98,121,116,101,115]⟩,.string ⟨#[97,45,98]⟩] 9)))
  clear T hr
  go_upto_region 18 with (first | (go_at_call 23;(with_reducible refine aS (CH.out _) ?_)) | (go_at_call 23;(with_reducible refine aS (CR.out _) ?_);generalize W2.alloc (.cells #[.string ⟨#[]⟩,.string ⟨#[105,100]⟩,.string ⟨#[111,102]⟩,.string ⟨#[111,116,104,101,114]⟩,.string ⟨#[85,112,112,101,114]⟩,.string ⟨#[49,97]⟩,.string ⟨#[116,104,105,114,116,101,101,110,98,121,116,101,115]⟩,.string ⟨#[97,45,98]⟩] 9)=W3 at T3 qx ⊢;have q:=T3.out.box (.head _);obtain ⟨z0,z1,z2,z3,z4,z5,z6,z7⟩:=aN8 q.cell;obtain ⟨f0,f1,f2,f3,f4,f5,f6,f7⟩:=aN8 q.frozen;simp at z0 z1 z2 z3 z4 z5 z6 z7;clear q))
  clear z0 z1 z2 z3 z4 z5 z6 z7 f0 f1 f2 f3 f4 f5 f6 f7
  have T2:=aI (show HR w G (N1::N0::G) [(N0,65,#[.string u,.string of_,.string up,.int .i64 kd,.int .i64 lo,.int .i64 hi,.slice A nw c,.slice B nv d]),(N1,65,#[.string ⟨#[]⟩,.string ⟨#[]⟩,.string ⟨#[]⟩,.int .i64 0,.int .i64 0,.int .i64 0,.slice none 0 0,.slice none 0 0])] [] [λM W=>SlAt M W A ws,λM W=>SlAt M W B ns] (W3.setCell ⟨N0,0,none⟩ (.string u)) from T3.out.set0 0 _)
  clear T3 qx
  generalize W3.setCell ⟨N0,0,none⟩ (.string u)=W4 at T2 ⊢
  have q:=T2.out.box (.head _);obtain ⟨q0,q1,q2,q3,q4,q5,q6,q7⟩:=aN8 q.cell;simp at q0 q1 q2 q3 q4 q5 q6 q7;clear q
  have p:=T2.out.box (.tail _ (.head _));obtain ⟨f0,f1,f2,f3,f4,f5,f6,f7⟩:=aN8 p.frozen;obtain ⟨p0,p1,p2,p3,p4,p5,p6,p7⟩:=aN8 p.cell;simp at p0 p1 p2 p3 p4 p5 p6 p7;clear p
  go_cut [] from 7 (λw'=>SFC cb G w N1 w')
  case first =>
   go_wp2_with fail
   go_meet
   case rel=>exact sfc_mk T2.out (sf_rep (by omega) (by omega) (by omega) (by unfold inI;omega) (by unfold inI;omega) (by unfold inI;omega) HNW.out HNV.out HB1.out b2 HB3.out b4 (T2.out.fact (.head _)) (T2.out.fact (.tail _ (.head _)))) (⟨hu16,HFW.out.of_,HFW.out.up,HFW.out.lo,HFW.out.hi,HFW.out.ws,HFW.out.ns,HFW.out.w,HFW.out.kd⟩)
  case rest =>
   obtain ⟨f9,nm9,of9,up9,kd9,lo9,hi9,A9,nw9,c9,B9,nv9,d9,q,hr9,hl9,hb9⟩:=hcut
   clear q0 q1 q2 q3 q4 q5 q6 q7
   obtain ⟨q0,q1,q2,q3,q4,q5,q6,q7⟩:=aN8 q.cell;simp at q0 q1 q2 q3 q4 q5 q6 q7;clear q
   rename_i hK
   apply hK
   refine wp_ret ?_
   (try simp only [Exit.inBlock,Exit.then])
   refine zi (v:=.agg #[.string nm9,.string of9,.string up9,.int .i64 kd9,.int .i64 lo9,.int .i64 hi9,.slice A9 nw9 c9,.slice B9 nv9 d9]) ?_ rfl ?_
   .simp [results,Tryz.results24,go_sem,q0,q1,q2,q3,q4,q5,q6,q7]
    try rfl
   .exact ⟨f9,_,rfl,hr9,hl9,hb9⟩
 .have hr:=HBD.out by_ 9 (by omega)
  have CR:=aI (CB.out 9)
  obtain ⟨r,hre⟩:=aX (around by_ 9)
  rw [hre] at CR hr
  clear hre
  obtain ⟨rn,rfl⟩:∃n:Nat,r=n:=⟨r.toNat,by omega⟩
  obtain ⟨u,hu,hu16⟩:=spO_at rn (by omega)
  have hr0:(0:Int)<=(rn:Int):=by omega
  have hr1:(rn:Int) < 9:=hr.2
  have qx:=(zj W2 9 spO).cell rn
  rw [hu] at qx
  unfold spO at qx
  clear hu
  have T3:=aI (T.out.below ((zf _ _).alloc (ag _) (.cells #[.string ⟨#[]⟩,.string ⟨#[105,100]⟩,.string ⟨#[111,102]⟩,.string ⟨#[112,101,114,115,111,110]⟩,.string ⟨#[111,114,100,101,114]⟩,.string ⟨#[108,105,102,101]⟩,.string ⟨#[116,111,116,97,108]⟩,.string ⟨#[98,111,114,110]⟩,.string ⟨#[115,105,122,101]⟩] 9)))
  clear T hr
  go_upto_region 18 with (first | (go_at_call 23;(with_reducible refine aS (CH.out _) ?_)) | (go_at_call 23;(with_reducible refine aS (CR.out _) ?_);generalize W2.alloc (.cells #[.string ⟨#[]⟩,.string ⟨#[105,100]⟩,.string ⟨#[111,102]⟩,.string ⟨#[112,101,114,115,111,110]⟩,.string ⟨#[111,114,100,101,114]⟩,.string ⟨#[108,105,102,101]⟩,.string ⟨#[116,111,116,97,108]⟩,.string ⟨#[98,111,114,110]⟩,.string ⟨#[115,105,122,101]⟩] 9)=W3 at T3 qx ⊢;have q:=T3.out.box (.head _);obtain ⟨z0,z1,z2,z3,z4,z5,z6,z7⟩:=aN8 q.cell;obtain ⟨f0,f1,f2,f3,f4,f5,f6,f7⟩:=aN8 q.frozen;simp at z0 z1 z2 z3 z4 z5 z6 z7;clear q))
  clear z0 z1 z2 z3 z4 z5 z6 z7 f0 f1 f2 f3 f4 f5 f6 f7
  have T2:=aI (show HR w G (N1::N0::G) [(N0,65,#[.string nm,.string u,.string up,.int .i64 kd,.int .i64 lo,.int .i64 hi,.slice A nw c,.slice B nv d]),(N1,65,#[.string ⟨#[]⟩,.string ⟨#[]⟩,.string ⟨#[]⟩,.int .i64 0,.int .i64 0,.int .i64 0,.slice none 0 0,.slice none 0 0])] [] [λM W=>SlAt M W A ws,λM W=>SlAt M W B ns] (W3.setCell ⟨N0,1,none⟩ (.string u)) from T3.out.set0 1 _)
  clear T3 qx
  generalize W3.setCell ⟨N0,1,none⟩ (.string u)=W4 at T2 ⊢
  have q:=T2.out.box (.head _);obtain ⟨q0,q1,q2,q3,q4,q5,q6,q7⟩:=aN8 q.cell;simp at q0 q1 q2 q3 q4 q5 q6 q7;clear q
  have p:=T2.out.box (.tail _ (.head _));obtain ⟨f0,f1,f2,f3,f4,f5,f6,f7⟩:=aN8 p.frozen;obtain ⟨p0,p1,p2,p3,p4,p5,p6,p7⟩:=aN8 p.cell;simp at p0 p1 p2 p3 p4 p5 p6 p7;clear p
  go_cut [] from 7 (λw'=>SFC cb G w N1 w')
  case first =>
   go_wp2_with fail
   go_meet
   case rel=>exact sfc_mk T2.out (sf_rep (by omega) (by omega) (by omega) (by unfold inI;omega) (by unfold inI;omega) (by unfold inI;omega) HNW.out HNV.out HB1.out b2 HB3.out b4 (T2.out.fact (.head _)) (T2.out.fact (.tail _ (.head _)))) (⟨HFW.out.nm,hu16,HFW.out.up,HFW.out.lo,HFW.out.hi,HFW.out.ws,HFW.out.ns,HFW.out.w,HFW.out.kd⟩)
  case rest =>
   obtain ⟨f9,nm9,of9,up9,kd9,lo9,hi9,A9,nw9,c9,B9,nv9,d9,q,hr9,hl9,hb9⟩:=hcut
   clear q0 q1 q2 q3 q4 q5 q6 q7
   obtain ⟨q0,q1,q2,q3,q4,q5,q6,q7⟩:=aN8 q.cell;simp at q0 q1 q2 q3 q4 q5 q6 q7;clear q
   rename_i hK
   apply hK
   refine wp_ret ?_
   (try simp only [Exit.inBlock,Exit.then])
   refine zi (v:=.agg #[.string nm9,.string of9,.string up9,.int .i64 kd9,.int .i64 lo9,.int .i64 hi9,.slice A9 nw9 c9,.slice B9 nv9 d9]) ?_ rfl ?_
   .simp [results,Tryz.results24,go_sem,q0,q1,q2,q3,q4,q5,q6,q7]
    try rfl
   .exact ⟨f9,_,rfl,hr9,hl9,hb9⟩
 .have hr:=HBD.out by_ 5 (by omega)
  have CR:=aI (CB.out 5)
  obtain ⟨r,hre⟩:=aX (around by_ 5)
  rw [hre] at CR hr
  clear hre
  obtain ⟨rn,rfl⟩:∃n:Nat,r=n:=⟨r.toNat,by omega⟩
  obtain ⟨u,hu,hu16⟩:=spU_at rn (by omega)
  have hr0:(0:Int)<=(rn:Int):=by omega
  have hr1:(rn:Int) < 5:=hr.2
  have qx:=(zj W2 9 spU).cell rn
  rw [hu] at qx
  unfold spU at qx
  clear hu
  have T3:=aI (T.out.below ((zf _ _).alloc (ag _) (.cells #[.string ⟨#[]⟩,.string ⟨#[111,102]⟩,.string ⟨#[98,121]⟩,.string ⟨#[105,100]⟩,.string ⟨#[63]⟩] 9)))
  clear T hr
  go_upto_region 18 with (first | (go_at_call 23;(with_reducible refine aS (CH.out _) ?_)) | (go_at_call 23;(with_reducible refine aS (CR.out _) ?_);generalize W2.alloc (.cells #[.string ⟨#[]⟩,.string ⟨#[111,102]⟩,.string ⟨#[98,121]⟩,.string ⟨#[105,100]⟩,.string ⟨#[63]⟩] 9)=W3 at T3 qx ⊢;have q:=T3.out.box (.head _);obtain ⟨z0,z1,z2,z3,z4,z5,z6,z7⟩:=aN8 q.cell;obtain ⟨f0,f1,f2,f3,f4,f5,f6,f7⟩:=aN8 q.frozen;simp at z0 z1 z2 z3 z4 z5 z6 z7;clear q))
  clear z0 z1 z2 z3 z4 z5 z6 z7 f0 f1 f2 f3 f4 f5 f6 f7
  have T2:=aI (show HR w G (N1::N0::G) [(N0,65,#[.string nm,.string of_,.string u,.int .i64 kd,.int .i64 lo,.int .i64 hi,.slice A nw c,.slice B nv d]),(N1,65,#[.string ⟨#[]⟩,.string ⟨#[]⟩,.string ⟨#[]⟩,.int .i64 0,.int .i64 0,.int .i64 0,.slice none 0 0,.slice none 0 0])] [] [λM W=>SlAt M W A ws,λM W=>SlAt M W B ns] (W3.setCell ⟨N0,2,none⟩ (.string u)) from T3.out.set0 2 _)
  clear T3 qx
  generalize W3.setCell ⟨N0,2,none⟩ (.string u)=W4 at T2 ⊢
  have q:=T2.out.box (.head _);obtain ⟨q0,q1,q2,q3,q4,q5,q6,q7⟩:=aN8 q.cell;simp at q0 q1 q2 q3 q4 q5 q6 q7;clear q
  have p:=T2.out.box (.tail _ (.head _));obtain ⟨f0,f1,f2,f3,f4,f5,f6,f7⟩:=aN8 p.frozen;obtain ⟨p0,p1,p2,p3,p4,p5,p6,p7⟩:=aN8 p.cell;simp at p0 p1 p2 p3 p4 p5 p6 p7;clear p
  go_cut [] from 7 (λw'=>SFC cb G w N1 w')
  case first =>
   go_wp2_with fail
   go_meet
   case rel=>exact sfc_mk T2.out (sf_rep (by omega) (by omega) (by omega) (by unfold inI;omega) (by unfold inI;omega) (by unfold inI;omega) HNW.out HNV.out HB1.out b2 HB3.out b4 (T2.out.fact (.head _)) (T2.out.fact (.tail _ (.head _)))) (⟨HFW.out.nm,HFW.out.of_,hu16,HFW.out.lo,HFW.out.hi,HFW.out.ws,HFW.out.ns,HFW.out.w,HFW.out.kd⟩)
  case rest =>
   obtain ⟨f9,nm9,of9,up9,kd9,lo9,hi9,A9,nw9,c9,B9,nv9,d9,q,hr9,hl9,hb9⟩:=hcut
   clear q0 q1 q2 q3 q4 q5 q6 q7
   obtain ⟨q0,q1,q2,q3,q4,q5,q6,q7⟩:=aN8 q.cell;simp at q0 q1 q2 q3 q4 q5 q6 q7;clear q
   rename_i hK
   apply hK
   refine wp_ret ?_
   (try simp only [Exit.inBlock,Exit.then])
   refine zi (v:=.agg #[.string nm9,.string of9,.string up9,.int .i64 kd9,.int .i64 lo9,.int .i64 hi9,.slice A9 nw9 c9,.slice B9 nv9 d9]) ?_ rfl ?_
   .simp [results,Tryz.results24,go_sem,q0,q1,q2,q3,q4,q5,q6,q7]
    try rfl
   .exact ⟨f9,_,rfl,hr9,hl9,hb9⟩
 .have hr:=HBD.out by_ 6 (by omega)
  have CR:=aI (CB.out 6)
  obtain ⟨r,hre⟩:=aX (around by_ 6)
  rw [hre] at CR hr
  clear hre
  obtain ⟨rn,rfl⟩:∃n:Nat,r=n:=⟨r.toNat,by omega⟩
  obtain ⟨u,hu,hu1,hu2⟩:=spL_at lo (cb:Int) (by omega) fq4 rn (by omega)
  have hr0:(0:Int)<=(rn:Int):=by omega
  have hr1:(rn:Int) < 6:=hr.2
  have HU:=aI hu
  clear hu hr
  go_upto_region 12 with (first | (go_at_call 23;(with_reducible refine aS (CH.out _) ?_)))
  apply zy (C:=λw'=>HR w G (N1::N0::G) [(N0,65,#[.string nm,.string of_,.string up,.int .i64 kd,.int .i64 lo,.int .i64 hi,.slice A nw c,.slice B nv d]),(N1,65,#[.string ⟨#[]⟩,.string ⟨#[]⟩,.string ⟨#[]⟩,.int .i64 0,.int .i64 0,.int .i64 0,.slice none 0 0,.slice none 0 0])] [] [λM W=>SlAt M W A ws,λM W=>SlAt M W B ns] w') (n:=94) (m:=9) (l1:=[_,_,_,_,_,_,_,_,_]) (l2:=[_]);rfl;rfl;kernel_rfl;rfl;kernel_rfl;exact T.out.drew;exact λu u' h hb=>(by first | exact h.below hb | exact h.trans (hb.mono h.size))
  (apply aJ;·(intro w' hC hf;clear hf hC;go_wp2_with (fail);apply aO;simp only [zC];exact rfl));(try simp only [zn])
  (apply aJ;·(intro w' hC hf;have q:=hC.box (.head _);have z4:=q.cell 4;(simp at z4);clear q;clear hf hC;go_wp2_with (fail);apply aO;simp only [zC];exact rfl));(try simp only [zn])
  (apply aJ;·(intro w' hC hf;clear hf hC;go_wp2_with (fail);apply aO;simp only [zC];exact rfl));(try simp only [zn])
  apply zF (slBlk_kept 6 3 #[.int .i64 (lo - 1),.int .i64 0,.int .i64 5,.int .i64 (-1048576),.int .i64 (-1048577),.int .i64 33])
  .intro w' hC hf;unfold Gives;clear hf hC;go_wp2_with fail;apply zJ rfl (by go_grown);simp only [zC];exact ⟨_,rfl,zj _ _ _⟩
  intro vsl;(try simp only [zn])
  (apply aJ;·(intro w' hC hf;clear hf hC;go_wp2_with (fail);apply aO;simp only [zC];exact rfl));(try simp only [zn])
  (apply aJ;·(intro w' hC hf;clear hf hC;go_wp2_with ((go_at_call 23;(with_reducible refine aS (CR.out _) ?_)));apply aO;simp only [zC];exact rfl));(try simp only [zn])
  apply zF (atCell_kept (.int .i64 u))
  .intro w' hC hf;unfold Gives;obtain ⟨N,rfl,hB⟩:=hf.1 rfl
   have qx:w'.cell? ⟨N,rn,none⟩=some (.int .i64 u):=(hB.cell rn).trans HU.out
   clear hf hC hB;go_wp2_with fail
   refine zJ rfl (zf _ _) ?_;simp only [zC];exact ⟨⟨N,rn,none⟩,by first | rfl | simp [Addr.add],qx⟩
  intro vp;(try simp only [zn])
  (apply aJ;·(intro w' hC hf;obtain ⟨pa,rfl,hpa⟩:=hf.1 rfl;clear hf hC;go_wp2_with (fail);apply aO;simp only [zC];exact rfl));(try simp only [zn])
  (apply aJ;·(intro w' hC hf;clear hf hC;go_wp2_with (fail);apply aO;simp only [zC];exact rfl));(try simp only [zn])
  apply wpT_done
  intro w4 hC hall
  have T3:=aI hC
  clear T hC hall
  have q:=T3.out.box (.head _);obtain ⟨z0,z1,z2,z3,z4,z5,z6,z7⟩:=aN8 q.cell;obtain ⟨f0,f1,f2,f3,f4,f5,f6,f7⟩:=aN8 q.frozen;simp at z0 z1 z2 z3 z4 z5 z6 z7;clear q
  go_upto_region 18 with fail
  clear z0 z1 z2 z3 z4 z5 z6 z7 f0 f1 f2 f3 f4 f5 f6 f7
  have T2:=aI (show HR w G (N1::N0::G) [(N0,65,#[.string nm,.string of_,.string up,.int .i64 kd,.int .i64 u,.int .i64 hi,.slice A nw c,.slice B nv d]),(N1,65,#[.string ⟨#[]⟩,.string ⟨#[]⟩,.string ⟨#[]⟩,.int .i64 0,.int .i64 0,.int .i64 0,.slice none 0 0,.slice none 0 0])] [] [λM W=>SlAt M W A ws,λM W=>SlAt M W B ns] (w4.setCell ⟨N0,4,none⟩ (.int .i64 u)) from T3.out.set0 4 _)
  clear T3
  generalize w4.setCell ⟨N0,4,none⟩ (.int .i64 u)=W3 at T2 ⊢
  have q:=T2.out.box (.head _);obtain ⟨q0,q1,q2,q3,q4,q5,q6,q7⟩:=aN8 q.cell;simp at q0 q1 q2 q3 q4 q5 q6 q7;clear q
  have p:=T2.out.box (.tail _ (.head _));obtain ⟨f0,f1,f2,f3,f4,f5,f6,f7⟩:=aN8 p.frozen;obtain ⟨p0,p1,p2,p3,p4,p5,p6,p7⟩:=aN8 p.cell;simp at p0 p1 p2 p3 p4 p5 p6 p7;clear p
  go_cut [] from 7 (λw'=>SFC cb G w N1 w')
  case first =>
   go_wp2_with fail
   go_meet
   case rel=>exact sfc_mk T2.out (sf_rep (by omega) (by omega) (by omega) (by unfold inI;omega) (by unfold inI;omega) (by unfold inI;omega) HNW.out HNV.out HB1.out b2 HB3.out b4 (T2.out.fact (.head _)) (T2.out.fact (.tail _ (.head _)))) (⟨HFW.out.nm,HFW.out.of_,HFW.out.up,⟨by show -1100000 - ((cb+1:Nat):Int)<=u;omega,by show u<=1100000+((cb+1:Nat):Int);omega⟩,HFW.out.hi,HFW.out.ws,HFW.out.ns,HFW.out.w,HFW.out.kd⟩)
  case rest =>
   obtain ⟨f9,nm9,of9,up9,kd9,lo9,hi9,A9,nw9,c9,B9,nv9,d9,q,hr9,hl9,hb9⟩:=hcut
   clear q0 q1 q2 q3 q4 q5 q6 q7
   obtain ⟨q0,q1,q2,q3,q4,q5,q6,q7⟩:=aN8 q.cell;simp at q0 q1 q2 q3 q4 q5 q6 q7;clear q
   rename_i hK
   apply hK
   refine wp_ret ?_
   (try simp only [Exit.inBlock,Exit.then])
   refine zi (v:=.agg #[.string nm9,.string of9,.string up9,.int .i64 kd9,.int .i64 lo9,.int .i64 hi9,.slice A9 nw9 c9,.slice B9 nv9 d9]) ?_ rfl ?_
   .simp [results,Tryz.results24,go_sem,q0,q1,q2,q3,q4,q5,q6,q7]
    try rfl
   .exact ⟨f9,_,rfl,hr9,hl9,hb9⟩
 .have hr:=HBD.out by_ 8 (by omega)
  have CR:=aI (CB.out 8)
  obtain ⟨r,hre⟩:=aX (around by_ 8)
  rw [hre] at CR hr
  clear hre
  obtain ⟨rn,rfl⟩:∃n:Nat,r=n:=⟨r.toNat,by omega⟩
  obtain ⟨u,hu,hu1,hu2⟩:=spH_at hi (cb:Int) (by omega) fq5 rn (by omega)
  have hr0:(0:Int)<=(rn:Int):=by omega
  have hr1:(rn:Int) < 8:=hr.2
  have HU:=aI hu
  clear hu hr
  go_upto_region 14 with (first | (go_at_call 23;(with_reducible refine aS (CH.out _) ?_)))
  apply zy (C:=λw'=>HR w G (N1::N0::G) [(N0,65,#[.string nm,.string of_,.string up,.int .i64 kd,.int .i64 lo,.int .i64 hi,.slice A nw c,.slice B nv d]),(N1,65,#[.string ⟨#[]⟩,.string ⟨#[]⟩,.string ⟨#[]⟩,.int .i64 0,.int .i64 0,.int .i64 0,.slice none 0 0,.slice none 0 0])] [] [λM W=>SlAt M W A ws,λM W=>SlAt M W B ns] w') (n:=94) (m:=9) (l1:=[_,_,_,_,_,_,_,_,_]) (l2:=[_]);rfl;rfl;kernel_rfl;rfl;kernel_rfl;exact T.out.drew;exact λu u' h hb=>(by first | exact h.below hb | exact h.trans (hb.mono h.size))
  (apply aJ;·(intro w' hC hf;clear hf hC;go_wp2_with (fail);apply aO;simp only [zC];exact rfl));(try simp only [zn])
  (apply aJ;·(intro w' hC hf;have q:=hC.box (.head _);have z5:=q.cell 5;(simp at z5);clear q;clear hf hC;go_wp2_with (fail);apply aO;simp only [zC];exact rfl));(try simp only [zn])
  (apply aJ;·(intro w' hC hf;clear hf hC;go_wp2_with (fail);apply aO;simp only [zC];exact rfl));(try simp only [zn])
  apply zF (slBlk_kept 8 3 #[.int .i64 (hi+1),.int .i64 0,.int .i64 32,.int .i64 33,.int .i64 65536,.int .i64 65537,.int .i64 1048576,.int .i64 1048577])
  .intro w' hC hf;unfold Gives;clear hf hC;go_wp2_with fail;apply zJ rfl (by go_grown);simp only [zC];exact ⟨_,rfl,zj _ _ _⟩
  intro vsl;(try simp only [zn])
  (apply aJ;·(intro w' hC hf;clear hf hC;go_wp2_with (fail);apply aO;simp only [zC];exact rfl));(try simp only [zn])
  (apply aJ;·(intro w' hC hf;clear hf hC;go_wp2_with ((go_at_call 23;(with_reducible refine aS (CR.out _) ?_)));apply aO;simp only [zC];exact rfl));(try simp only [zn])
  apply zF (atCell_kept (.int .i64 u))
  .intro w' hC hf;unfold Gives;obtain ⟨N,rfl,hB⟩:=hf.1 rfl
   have qx:w'.cell? ⟨N,rn,none⟩=some (.int .i64 u):=(hB.cell rn).trans HU.out
   clear hf hC hB;go_wp2_with fail
   refine zJ rfl (zf _ _) ?_;simp only [zC];exact ⟨⟨N,rn,none⟩,by first | rfl | simp [Addr.add],qx⟩
  intro vp;(try simp only [zn])
  (apply aJ;·(intro w' hC hf;obtain ⟨pa,rfl,hpa⟩:=hf.1 rfl;clear hf hC;go_wp2_with (fail);apply aO;simp only [zC];exact rfl));(try simp only [zn])
  (apply aJ;·(intro w' hC hf;clear hf hC;go_wp2_with (fail);apply aO;simp only [zC];exact rfl));(try simp only [zn])
  apply wpT_done
  intro w4 hC hall
  have T3:=aI hC
  clear T hC hall
  have q:=T3.out.box (.head _);obtain ⟨z0,z1,z2,z3,z4,z5,z6,z7⟩:=aN8 q.cell;obtain ⟨f0,f1,f2,f3,f4,f5,f6,f7⟩:=aN8 q.frozen;simp at z0 z1 z2 z3 z4 z5 z6 z7;clear q
  go_upto_region 18 with fail
  clear z0 z1 z2 z3 z4 z5 z6 z7 f0 f1 f2 f3 f4 f5 f6 f7
  have T2:=aI (show HR w G (N1::N0::G) [(N0,65,#[.string nm,.string of_,.string up,.int .i64 kd,.int .i64 lo,.int .i64 u,.slice A nw c,.slice B nv d]),(N1,65,#[.string ⟨#[]⟩,.string ⟨#[]⟩,.string ⟨#[]⟩,.int .i64 0,.int .i64 0,.int .i64 0,.slice none 0 0,.slice none 0 0])] [] [λM W=>SlAt M W A ws,λM W=>SlAt M W B ns] (w4.setCell ⟨N0,5,none⟩ (.int .i64 u)) from T3.out.set0 5 _)
  clear T3
  generalize w4.setCell ⟨N0,5,none⟩ (.int .i64 u)=W3 at T2 ⊢
  have q:=T2.out.box (.head _);obtain ⟨q0,q1,q2,q3,q4,q5,q6,q7⟩:=aN8 q.cell;simp at q0 q1 q2 q3 q4 q5 q6 q7;clear q
  have p:=T2.out.box (.tail _ (.head _));obtain ⟨f0,f1,f2,f3,f4,f5,f6,f7⟩:=aN8 p.frozen;obtain ⟨p0,p1,p2,p3,p4,p5,p6,p7⟩:=aN8 p.cell;simp at p0 p1 p2 p3 p4 p5 p6 p7;clear p
  go_cut [] from 7 (λw'=>SFC cb G w N1 w')
  case first =>
   go_wp2_with fail
   go_meet
   case rel=>exact sfc_mk T2.out (sf_rep (by omega) (by omega) (by omega) (by unfold inI;omega) (by unfold inI;omega) (by unfold inI;omega) HNW.out HNV.out HB1.out b2 HB3.out b4 (T2.out.fact (.head _)) (T2.out.fact (.tail _ (.head _)))) (⟨HFW.out.nm,HFW.out.of_,HFW.out.up,HFW.out.lo,⟨by show -1100000 - ((cb+1:Nat):Int)<=u;omega,by show u<=1100000+((cb+1:Nat):Int);omega⟩,HFW.out.ws,HFW.out.ns,HFW.out.w,HFW.out.kd⟩)
  case rest =>
   obtain ⟨f9,nm9,of9,up9,kd9,lo9,hi9,A9,nw9,c9,B9,nv9,d9,q,hr9,hl9,hb9⟩:=hcut
   clear q0 q1 q2 q3 q4 q5 q6 q7
   obtain ⟨q0,q1,q2,q3,q4,q5,q6,q7⟩:=aN8 q.cell;simp at q0 q1 q2 q3 q4 q5 q6 q7;clear q
   rename_i hK
   apply hK
   refine wp_ret ?_
   (try simp only [Exit.inBlock,Exit.then])
   refine zi (v:=.agg #[.string nm9,.string of9,.string up9,.int .i64 kd9,.int .i64 lo9,.int .i64 hi9,.slice A9 nw9 c9,.slice B9 nv9 d9]) ?_ rfl ?_
   .simp [results,Tryz.results24,go_sem,q0,q1,q2,q3,q4,q5,q6,q7]
    try rfl
   .exact ⟨f9,_,rfl,hr9,hl9,hb9⟩
 .have hq:=HBD.out by_ 3 (by omega)
  have CR1:=aI (CB.out 3)
  obtain ⟨r1,hre⟩:=aX (around by_ 3)
  rw [hre] at CR1 hq
  clear hre
  have hp:=HBD.out (by_.tdiv 3) 5 (by omega)
  have CR2:=aI (CB3.out 5)
  obtain ⟨r2,hre⟩:=aX (around (by_.tdiv 3) 5)
  rw [hre] at CR2 hp
  clear hre
  have e3:wrap64 (by_.tdiv 3)=by_.tdiv 3:=HT3.out
  obtain ⟨b3,hb3⟩:=aX (by_.tdiv 3)
  have e4:wrap64 (by_.tdiv 3)=b3:=e3.trans hb3
  rw [hb3] at CR2
  clear e3 hb3
  obtain ⟨rn6,hrn6⟩:∃n:Nat,r1=n:=⟨r1.toNat,by omega⟩
  rw [hrn6] at CR1 hq
  obtain ⟨u6,hu,hub6⟩:=spM_at rn6 (by omega)
  have hr0:(0:Int)<=(rn6:Int):=by omega
  have hr1:(rn6:Int) < 3:=by omega
  have HU:=aI hu
  clear hu hrn6 hq
  obtain ⟨i0,hj,hz0,hz1,hz2⟩:=zq infoStrS
  obtain ⟨M3,h3,-⟩:=T.out.take ((zf _ _).alloc (ag _) (.cells #[] 9)) (World.ownsRow_lit (base:=W2.heap.size) (size:=1) (e:=9) W2 #[] 0 (ag _) (by decide) rfl)
  obtain ⟨xs6,hrd,hfl⟩:=(h3.fact (.head _)).reads
  rw [HNW.out] at hrd
  have T3:=aI (h3.add (keeps_flat _ xs6) hfl)
  have HRD:=aI hrd;have HON:=aI hfl.one
  clear h3 hrd hfl T
  have q:=T3.out.box (.head _);have z6:=q.cell 6;(simp at z6);clear q
  go_upto_region 17 with (first | (go_at_call 23;(with_reducible refine aS (CR1.out _) ?_);have qx:=(zj W46 9 spM).cell rn6;rw [HU.out] at qx;unfold spM at qx;replace T3:=aI (T3.out.below ((zf _ _).alloc (ag _) (.cells #[.string ⟨#[109,111,114,101]⟩,.string ⟨#[114,101,100]⟩,.string ⟨#[]⟩] 9)));generalize W46.alloc (.cells #[.string ⟨#[109,111,114,101]⟩,.string ⟨#[114,101,100]⟩,.string ⟨#[]⟩] 9)=W56 at T3 qx ⊢) | (at_builtin;refine wpList_append_rows (by rfl) _ _ 54 (by rfl) 9 i0 _ 1 16 Tryz.underlying54 hj hz0 hz1 hz2 rfl (by decide) T3.out (by rfl) _ _ nw c xs6 (by rfl) HRD.out HON.out (by unfold maxLen;omega) (by omega) ?_;intro v4 W46 M4 h4 _;simp only [zG,zA] at h4;clear z6;replace T3:=aI h4;clear h4 HRD HON;obtain ⟨A4,c4,rfl⟩:=T3.out.form (.head _)) | (at_builtin;refine wpList_append_rows (by rfl) _ _ 54 (by rfl) 9 i0 _ 1 16 Tryz.underlying54 hj hz0 hz1 hz2 rfl (by decide) (T3.out.below (aP _ _)) (by rfl) _ _ 1 1 [.string u6] (by rfl) (reads_blk (zj _ _ _) rfl) (by intro v hv;rw [zg] at hv;subst hv;rfl) (by unfold maxLen;omega) (by omega) ?_;intro v6 W66 M6 h6 _;replace T3:=aI h6;clear h6;obtain ⟨A66,c66,rfl⟩:=T3.out.form (.head _);have q:=T3.out.box (.head _);have z6:=q.cell 6;have f6:=q.frozen 6;(simp at z6);clear q) | (go_at_call 23;(with_reducible refine aS (CH.out _) ?_)))
  have T4:=aI (T3.out.set0 6 (.slice A66 (nw+1) c66))
  clear T3 z6 f6 qx hj hz0 hz1 hz2 HU
  generalize W66.setCell ⟨N0,6,none⟩ (.slice A66 (nw+1) c66)=W76 at T4 ⊢
  obtain ⟨A8,c8,M86,he,hk16,hk26,T8,-,-⟩:=T4.out.freeze (l:=ws++[u6]) rfl (by rw [aK,HNW.out];simp) ((T4.out.fact (.head _)).append (Flat.single ⟨rfl,by omega⟩)) HG.out
  injection he with e1 e2 e3
  subst e1 e3
  have HLN6:=aI e2.symm
  rw [e2.symm] at hk16
  clear T4 e2
  (simp only [aB,aF,aG] at T8)
  obtain ⟨n6,hn6⟩:=aX (nw+1)
  have hnb6:n6<=13+cb:=by omega
  rw [hn6] at HLN6 hk16 T8 ⊢
  have T96:=aI T8
  clear T8 hn6
  obtain ⟨rn7,hrn7⟩:∃n:Nat,r2=n:=⟨r2.toNat,by omega⟩
  rw [hrn7] at CR2 hp
  obtain ⟨u7,hu,hub7⟩:=spW_at rn7 (by omega)
  have hr0:(0:Int)<=(rn7:Int):=by omega
  have hr1:(rn7:Int) < 5:=by omega
  have HU:=aI hu
  clear hu hrn7 hp
  obtain ⟨i0,hj,hz0,hz1,hz2⟩:=zq infoI1
  obtain ⟨M3,h3,-⟩:=T96.out.take ((zf _ _).alloc (ag _) (.cells #[] 3)) (World.ownsRow_lit (base:=W76.heap.size) (size:=1) (e:=3) W76 #[] 0 (ag _) (by decide) rfl)
  obtain ⟨xs7,hrd,hfl⟩:=(h3.fact (.tail _ (.tail _ (.tail _ (.head _))))).reads
  rw [HNV.out] at hrd
  have T3:=aI (h3.add (keeps_flat _ xs7) hfl)
  have HRD:=aI hrd;have HON:=aI hfl.one
  clear h3 hrd hfl T96
  have q:=T3.out.box (.head _);have z7:=q.cell 7;(simp at z7);clear q
  go_upto_region 18 with (first | (go_at_call 23;(with_reducible refine aS (CR2.out _) ?_);have qx:=(zj W47 3 spW).cell rn7;rw [HU.out] at qx;unfold spW at qx;replace T3:=aI (T3.out.below ((zf _ _).alloc (ag _) (.cells #[.int .i64 1,.int .i64 0,.int .i64 (-1),.int .i64 1048576,.int .i64 1048577] 3)));generalize W47.alloc (.cells #[.int .i64 1,.int .i64 0,.int .i64 (-1),.int .i64 1048576,.int .i64 1048577] 3)=W57 at T3 qx ⊢) | (at_builtin;refine wpList_append_rows (by rfl) _ _ 22 (by rfl) 3 i0 _ 1 8 Tryz.underlying22 hj hz0 hz1 hz2 rfl (by decide) T3.out (by rfl) _ _ nv d xs7 (by rfl) HRD.out HON.out (by unfold maxLen;omega) (by omega) ?_;intro v4 W47 M4 h4 _;simp only [zG,zA] at h4;clear z7;replace T3:=aI h4;clear h4 HRD HON;obtain ⟨A4,c4,rfl⟩:=T3.out.form (.head _)) | (at_builtin;refine wpList_append_rows (by rfl) _ _ 22 (by rfl) 3 i0 _ 1 8 Tryz.underlying22 hj hz0 hz1 hz2 rfl (by decide) (T3.out.below (aP _ _)) (by rfl) _ _ 1 1 [.int .i64 u7] (by rfl) (reads_blk (zj _ _ _) rfl) (by intro v hv;rw [zg] at hv;subst hv;rfl) (by unfold maxLen;omega) (by omega) ?_;intro v6 W67 M6 h6 _;replace T3:=aI h6;clear h6;obtain ⟨A67,c67,rfl⟩:=T3.out.form (.head _);have q:=T3.out.box (.head _);have z7:=q.cell 7;have f7:=q.frozen 7;(simp at z7);clear q))
  have T4:=aI (T3.out.set0 7 (.slice A67 (nv+1) c67))
  clear T3 z7 f7 qx hj hz0 hz1 hz2 HU
  generalize W67.setCell ⟨N0,7,none⟩ (.slice A67 (nv+1) c67)=W77 at T4 ⊢
  obtain ⟨A8,c8,M87,he,hk17,hk27,T8,-,-⟩:=T4.out.freeze (l:=ns++[u7]) rfl (by rw [aK,HNV.out];simp) ((T4.out.fact (.head _)).append (Flat.single ⟨rfl,by unfold inI;omega⟩)) HG.out
  injection he with e1 e2 e3
  subst e1 e3
  have HLN7:=aI e2.symm
  rw [e2.symm] at hk17
  clear T4 e2
  (simp only [aB,aF,aG] at T8)
  obtain ⟨n7,hn7⟩:=aX (nv+1)
  have hnb7:n7<=13+cb:=by omega
  rw [hn7] at HLN7 hk17 T8 ⊢
  have T97:=aI T8
  clear T8 hn7
  clear e4
  have T2:=T97
  clear T97
  have q:=T2.out.box (.head _);obtain ⟨q0,q1,q2,q3,q4,q5,q6,q7⟩:=aN8 q.cell;simp at q0 q1 q2 q3 q4 q5 q6 q7;clear q
  have p:=T2.out.box (.tail _ (.head _));obtain ⟨f0,f1,f2,f3,f4,f5,f6,f7⟩:=aN8 p.frozen;obtain ⟨p0,p1,p2,p3,p4,p5,p6,p7⟩:=aN8 p.cell;simp at p0 p1 p2 p3 p4 p5 p6 p7;clear p
  go_cut [] from 7 (λw'=>SFC cb G w N1 w')
  case first =>
   go_wp2_with fail
   go_meet
   case rel=>exact sfc_mk T2.out (sf_rep (by omega) (by omega) (by omega) (by unfold inI;omega) (by unfold inI;omega) (by unfold inI;omega) HLN6.out HLN7.out hk16 hk26 hk17 hk27 (T2.out.fact (.tail _ (.tail _ (.head _)))) (T2.out.fact (.head _))) (⟨HFW.out.nm,HFW.out.of_,HFW.out.up,HFW.out.lo,HFW.out.hi,by show (ws++[u6]).length<=_;rw [HLN6.out];omega,by show (ns++[u7]).length<=_;rw [HLN7.out];omega,λs hs=>by
     rcases zE.1 hs with hs | hs
     .exact HFW.out.w s hs
     .rw [zg.1 hs];exact hub6,HFW.out.kd⟩)
  case rest =>
   obtain ⟨f9,nm9,of9,up9,kd9,lo9,hi9,A9,nw9,c9,B9,nv9,d9,q,hr9,hl9,hb9⟩:=hcut
   clear q0 q1 q2 q3 q4 q5 q6 q7
   obtain ⟨q0,q1,q2,q3,q4,q5,q6,q7⟩:=aN8 q.cell;simp at q0 q1 q2 q3 q4 q5 q6 q7;clear q
   rename_i hK
   apply hK
   refine wp_ret ?_
   (try simp only [Exit.inBlock,Exit.then])
   refine zi (v:=.agg #[.string nm9,.string of9,.string up9,.int .i64 kd9,.int .i64 lo9,.int .i64 hi9,.slice A9 nw9 c9,.slice B9 nv9 d9]) ?_ rfl ?_
   .simp [results,Tryz.results24,go_sem,q0,q1,q2,q3,q4,q5,q6,q7]
    try rfl
   .exact ⟨f9,_,rfl,hr9,hl9,hb9⟩
 .have hmk:=λW=>run_make_row' (P:=Tryz.prog) 22 3 (.int .i64 0) 8 Tryz.underlying22 infoI1 rfl .i64 .i64 nw (by omega) (by omega) W
  have T3:=aI (T.out.made (madeCells #[.int .i64 0] nw) 3 rfl)
  have q:=T.out.box (.head _);have z6:=q.cell 6;(simp at z6);clear q
  have q:=T3.out.box (.head _);have y7:=q.cell 7;have f7:=q.frozen 7;(simp only [aE,aC,aD] at y7);clear q
  clear T
  go_upto_region 18 with (first | (go_at_call 23;(with_reducible refine aS (CH.out _) ?_)))
  clear z6 y7 f7 hmk
  generalize W2.alloc (.cells (madeCells #[.int .i64 0] nw) 3)=W3 at T3 ⊢
  generalize W2.heap.size=NL at T3 ⊢
  have T2:=aI (show HR w G (N1::N0::G) [(N0,65,#[.string nm,.string of_,.string up,.int .i64 kd,.int .i64 lo,.int .i64 hi,.slice A nw c,.slice (some ⟨NL,0,none⟩) nw nw]),(N1,65,#[.string ⟨#[]⟩,.string ⟨#[]⟩,.string ⟨#[]⟩,.int .i64 0,.int .i64 0,.int .i64 0,.slice none 0 0,.slice none 0 0])] [] ((λM W=>NL∉M/\Blk W NL 3 (madeCells #[.int .i64 0] nw))::[λM W=>SlAt M W A ws,λM W=>SlAt M W B ns]) (W3.setCell ⟨N0,7,none⟩ (.slice (some ⟨NL,0,none⟩) nw nw)) from T3.out.set0 7 _)
  clear T3
  generalize W3.setCell ⟨N0,7,none⟩ (.slice (some ⟨NL,0,none⟩) nw nw)=W4 at T2 ⊢
  have HSN:=aI (show SlAt (N1::N0::G) W4 (some ⟨NL,0,none⟩) (List.replicate nw (0:Int)) from SlAt.of_blk (xs:=intVals (List.replicate nw 0)) (flat_intsB (λz hz=>by rw [(List.mem_replicate.1 hz).2];unfold inI;omega)) (by
   have:=(T2.out.fact (.head _)).2
   rwa [show madeCells #[.int .i64 0] nw=(intVals (List.replicate nw 0)).toArray from by rw [<-Array.toArray_toList (xs:=madeCells #[.int .i64 0] nw),toList_madeCells_one];unfold intVals;rw [List.map_replicate]] at this) (T2.out.fact (.head _)).1)
  have q:=T2.out.box (.head _);obtain ⟨q0,q1,q2,q3,q4,q5,q6,q7⟩:=aN8 q.cell;simp at q0 q1 q2 q3 q4 q5 q6 q7;clear q
  have p:=T2.out.box (.tail _ (.head _));obtain ⟨f0,f1,f2,f3,f4,f5,f6,f7⟩:=aN8 p.frozen;obtain ⟨p0,p1,p2,p3,p4,p5,p6,p7⟩:=aN8 p.cell;simp at p0 p1 p2 p3 p4 p5 p6 p7;clear p
  go_cut [] from 7 (λw'=>SFC cb G w N1 w')
  case first =>
   go_wp2_with fail
   go_meet
   case rel=>exact sfc_mk T2.out (sf_rep (by omega) (by omega) (by omega) (by unfold inI;omega) (by unfold inI;omega) (by unfold inI;omega) HNW.out List.length_replicate HB1.out b2 (ag _) (by omega) (T2.out.fact (.tail _ (.head _))) HSN.out) (⟨HFW.out.nm,HFW.out.of_,HFW.out.up,HFW.out.lo,HFW.out.hi,HFW.out.ws,by show (List.replicate nw (0:Int)).length<=_;rw [List.length_replicate];omega,HFW.out.w,HFW.out.kd⟩)
  case rest =>
   obtain ⟨f9,nm9,of9,up9,kd9,lo9,hi9,A9,nw9,c9,B9,nv9,d9,q,hr9,hl9,hb9⟩:=hcut
   clear q0 q1 q2 q3 q4 q5 q6 q7
   obtain ⟨q0,q1,q2,q3,q4,q5,q6,q7⟩:=aN8 q.cell;simp at q0 q1 q2 q3 q4 q5 q6 q7;clear q
   rename_i hK
   apply hK
   refine wp_ret ?_
   (try simp only [Exit.inBlock,Exit.then])
   refine zi (v:=.agg #[.string nm9,.string of9,.string up9,.int .i64 kd9,.int .i64 lo9,.int .i64 hi9,.slice A9 nw9 c9,.slice B9 nv9 d9]) ?_ rfl ?_
   .simp [results,Tryz.results24,go_sem,q0,q1,q2,q3,q4,q5,q6,q7]
    try rfl
   .exact ⟨f9,_,rfl,hr9,hl9,hb9⟩
end Go.Proofs.YtobcnhmhgoccnaaGreatDoor
