/- Parts of the proof, joined: SxT9. -/
import Derived.Test.YtmplaikgbeeikaaGreatDoorK15
import Derived.Test.YtmplaikgbeeikaaGreatDoorK21
import Derived.Test.YtmplaikgbeeikaaGreatDoorK23
set_option linter.unusedVariables false
set_option linter.unusedSimpArgs false
set_option linter.unusedSectionVars false
namespace Go.Proofs.YtmplaikgbeeikaaGreatDoor
open Go Go.RowKit
theorem sl_off {w:World} {A:Option Addr} {N:Nat} {t:TypeId} {tk:List Tk} (hb:Blk w N t #[.int .i64 0,.slice none 0 0,.slice none 0 0,.slice none 0 0]) (h:SlAt [] w A (tk.map tokI)):SlAt [N] w A (tk.map tokI):=by
 rcases h with h | ⟨b,o,hA,hb1,_,hc⟩
 ·exact .inl h
 ·by_cases he:tk=[]
  ·exact .inl (by rw [he];rfl)
  ·have hpos:0 < (tk.map tokI).length:=by
    rw [List.length_map];cases tk with
    | nil=>exact absurd rfl he
    | cons _ _=>simp
   refine .inr ⟨b,o,hA,hb1,?_,fun i hi=>?_⟩
   ·rw [List.mem_singleton]
    rintro rfl
    obtain ⟨us,hr,hcs⟩:=hc 0 hpos
    obtain ⟨rfl,_⟩:=rep_mv hr
    have h0:=hcs 0 _ rfl
    have h1:=hcs 1 _ rfl
    rw [hb.cell] at h0 h1
    rw [Nat.zero_mul,Nat.zero_add] at h0 h1
    match o,h0,h1 with
    | 0,_,h1=>simp at h1
    | 1,h0,_=>simp at h0
    | 2,h0,_=>simp at h0
    | 3,h0,_=>simp at h0
    | n+4,h0,_=>simp at h0
   ·obtain ⟨us,hr,hcs⟩:=hc i hi
    obtain ⟨rfl,i1,i2⟩:=rep_mv hr
    exact ⟨_,⟨[_],_,rfl,⟨rfl,i1⟩,⟨rfl,i2⟩⟩,hcs⟩
theorem below_drw (W:World):Below W.heap.size W W.drew:=⟨rfl,rfl,rfl,Nat.le_refl _,fun _ _=>rfl⟩
theorem scan_lt (s:Sx.Txt) (f:Nat):∀ p∈(Vm.scan s f 0).1,p.1 < p.2:=by
 intro p hp
 have h:=(Sx.scan_words s f 0 (Nat.zero_le _) _ (List.mem_map_of_mem (f:=fun t=>Vm.piece s t.1 t.2) hp)).2
 rcases Nat.lt_or_ge p.1 p.2 with h' | h'
 ·exact h'
 ·exact absurd (show Vm.piece s p.1 p.2=[] by unfold Vm.piece;exact List.drop_eq_nil_of_le (by rw [List.length_take];omega)) h
set_option maxRecDepth 100000 in
set_option maxHeartbeats 16000000 in
theorem rparse9_any (s:ByteArray) (w:World) (hs:s.size≤9223372036854775807):Calls Tryz.prog 14 #[.string s] w (PParseP (Sx.parse s.data.toList) w):=by
 obtain ⟨n,hn⟩:∃ n,s.size=n:=⟨_,rfl⟩
 have hln:s.data.toList.length=n:=by rw [Vm.strLn,hn]
 have hsn:s.size=n:=hn
 by_cases hl:8192 < n
 ·have k1:(8192:Int) < (n:Int):=by omega
  have hp:Sx.parse s.data.toList=(Sx.noSch,8192,4):=by unfold Sx.parse;rw [hln,if_pos hl]
  rw [hp]
  obtain ⟨Nr,hNr⟩:∃ n,w.heap.size=n:=⟨_,rfl⟩
  have T:=aI ((held0 w [] (fun _ h=>by cases h)).new #[.int .i64 0,.slice none 0 0,.slice none 0 0,.slice none 0 0] 28 hNr)
  have HNr:=aI hNr
  clear hp hln hs hn hNr
  go_enter Tryz.func14,Tryz.ntmps14
  go_upto_region 2 with fail
  rw [HNr.out]
  generalize w.alloc (.cells #[.int .i64 0,.slice none 0 0,.slice none 0 0,.slice none 0 0] 28)=W1 at *
  have B:=T.out.box (.head _);have z0:=B.cell 0;have z1:=B.cell 1;have z2:=B.cell 2;have z3:=B.cell 3;have f0:=B.frozen 0;have f1:=B.frozen 1;have f2:=B.frozen 2;have f3:=B.frozen 3;simp at z0 z1 z2 z3;dsimp only at f0 f1 f2 f3;clear B
  have T2:=aI (show Held w [] [Nr] [(Nr,28,#[.int .i64 0,.slice none 0 0,.slice none 0 0,.slice none 0 0])] [] _ from (((T.out.put0 0 (.int .i64 0)).put0 1 (.slice none 0 0)).put0 2 (.slice none 0 0)).put0 3 (.slice none 0 0))
  go_wp2_with fail
  clear z0 z1 z2 z3 f0 f1 f2 f3
  generalize (((W1.setCell ⟨Nr,0,none⟩ (.int .i64 0)).setCell ⟨Nr,1,none⟩ (.slice none 0 0)).setCell ⟨Nr,2,none⟩ (.slice none 0 0)).setCell ⟨Nr,3,none⟩ (.slice none 0 0)=W2 at *
  have B:=T2.out.box (.head _);have y0:=B.cell 0;have y1:=B.cell 1;have y2:=B.cell 2;have y3:=B.cell 3
  simp at y0 y1 y2 y3
  refine bodyPost_ret (v:=.tuple #[.agg #[.int .i64 0,.slice none 0 0,.slice none 0 0,.slice none 0 0],.int .i64 8192,.int .i64 4]) ?_ rfl ?_
  ·simp [results,Tryz.results14,go_sem,y0,y1,y2,y3]
  ·exact ⟨[.int .i64 0,.slice none 0 0,.slice none 0 0,.slice none 0 0],rfl,noSch_rep _,T2.out.bl⟩
 ·have k1:¬ (8192:Int) < (n:Int):=by omega
  obtain ⟨Nr,hNr⟩:∃ n,w.heap.size=n:=⟨_,rfl⟩
  have CS:=aI (fun W=>scan_any s W (by omega))
  have T:=aI ((HR.start (held0 w [] (fun _ h=>by cases h))).new #[.int .i64 0,.slice none 0 0,.slice none 0 0,.slice none 0 0] 28 hNr)
  have HNr:=aI hNr
  have HP1:=fun h:Sx.schema (Sx.toks s.data.toList)=.bad []=>show Sx.parse s.data.toList=(Sx.noSch,(Sx.stopAt s.data.toList:Int),2) by unfold Sx.parse;rw [hln,if_neg hl,h]
  have HP2:=fun t l (h:Sx.schema (Sx.toks s.data.toList)=.bad (t::l))=>show Sx.parse s.data.toList=(Sx.noSch,(t.2:Int),2) by unfold Sx.parse;rw [hln,if_neg hl,h]
  have HP3:=fun x t l (h:Sx.schema (Sx.toks s.data.toList)=.ok x (t::l))=>show Sx.parse s.data.toList=(Sx.noSch,(t.2:Int),2) by unfold Sx.parse;rw [hln,if_neg hl,h]
  have HP4:=fun x (h:Sx.schema (Sx.toks s.data.toList)=.ok x []) (h2:Sx.stopAt s.data.toList < n)=>show Sx.parse s.data.toList=(Sx.noSch,(Sx.stopAt s.data.toList:Int),2) by unfold Sx.parse;rw [hln,if_neg hl,h];exact if_pos h2
  have HP5:=fun x (h:Sx.schema (Sx.toks s.data.toList)=.ok x []) (h2:¬ Sx.stopAt s.data.toList < n) (h3:Sx.valid x=0)=>show Sx.parse s.data.toList=(x,0,0) by unfold Sx.parse;rw [hln,if_neg hl,h];exact (if_neg h2).trans (if_pos h3)
  have HP6:=fun x (h:Sx.schema (Sx.toks s.data.toList)=.ok x []) (h2:¬ Sx.stopAt s.data.toList < n) (h3:¬ Sx.valid x=0)=>show Sx.parse s.data.toList=(Sx.noSch,0,4) by unfold Sx.parse;rw [hln,if_neg hl,h];exact (if_neg h2).trans (if_neg h3)
  obtain ⟨tk,htk⟩:∃ l,(Vm.scan s.data.toList (s.data.toList.length+1) 0).1=l:=⟨_,rfl⟩
  obtain ⟨sat,hsat⟩:∃ l,(Vm.scan s.data.toList (s.data.toList.length+1) 0).2=l:=⟨_,rfl⟩
  have hlt:∀ p∈tk,p.1 < p.2:=by rw [← htk];exact scan_lt _ _
  unfold ScanP at CS
  rw [htk,hsat] at CS
  have htoks:Sx.toks s.data.toList=tk.map (tokOf s):=by rw [← htk];rfl
  have hst:Sx.stopAt s.data.toList=sat:=hsat
  rw [htoks] at HP1 HP2 HP3 HP4 HP5 HP6
  rw [hst] at HP1 HP4 HP5 HP6
  have HTO:=aI (show tk.length≤s.data.toList.length→(∀ p∈tk,p.1≤p.2∧p.2≤s.data.toList.length)→TksOk s tk from fun h1 h2=>⟨fun p hp=>⟨hlt p hp,by have:=(h2 p hp).2;rw [Vm.strLn] at this;exact this⟩,by omega,by rw [hln] at h1;omega⟩)
  clear hs hNr hln htk hsat htoks hst hlt
  generalize Sx.parse s.data.toList=pr at *
  replace HP1:=aI HP1;replace HP2:=aI HP2;replace HP3:=aI HP3;replace HP4:=aI HP4;replace HP5:=aI HP5;replace HP6:=aI HP6
  obtain ⟨nt,hnt⟩:∃ k,tk.length=k:=⟨_,rfl⟩
  have HNT:=aI hnt
  rw [hnt] at CS
  clear hnt
  go_enter Tryz.func14,Tryz.ntmps14
  go_upto_region 1 with fail
  rw [HNr.out]
  generalize w.alloc (.cells #[.int .i64 0,.slice none 0 0,.slice none 0 0,.slice none 0 0] 28)=W1 at *
  go_upto_region 4 with (go_at_call 29;((with_reducible refine (CS.out _).mono ?_));rintro e w2 ⟨A,c,rfl,d1,d2,d3,hb2⟩;replace T:=aI (T.out.below hb2);have D:=aI (show SlAt [Nr] w2 A (tk.map tokI)∧TksOk s tk from ⟨sl_off (T.out.box (.head _)) d1,HTO.out (by rw [HNT.out];exact d2) d3⟩);clear hb2 d1 d2 d3)
  obtain ⟨Np,hNp⟩:∃ n,w2.heap.size=n:=⟨_,rfl⟩
  have T0:=(T.out.new #[.string s,.slice A tk.length c,.int .i64 ((0:Nat):Int),.bool false] 94 hNp).add (rc_keeps s tk (tk.map (tokOf s),false) _) ⟨A,c,0,rfl,rfl,Nat.zero_le _,(D.out.1.sub (fun g hg=>by
   rcases aL hg with rfl | hg
   ·exact .inr (Nat.le_of_eq hNp)
   ·exact .inl hg)).keep (Chg.of_below ((Below.refl _ _).alloc (Nat.le_refl _) _)),D.out.2⟩
  have P:=aI (show PH (rk w Np s tk) (tk.map (tokOf s),false) (Np::[Nr]) [(Nr,28,#[.int .i64 0,.slice none 0 0,.slice none 0 0,.slice none 0 0])] [] [] _ from ⟨_,T0⟩)
  have HTL:=aI (show (tk.map (tokOf s)).length≤8192 by rw [List.length_map];exact D.out.2.ln)
  clear D T T0
  go_upto_region 5 with fail
  rw [HNT.out] at P
  generalize w2.alloc (.cells #[.string s,.slice A nt c,.int .i64 0,.bool false] 94)=w3 at *
  (try rw [hNp])
  clear hNp
  replace T:=P
  clear P
  go_upto_region 6 with (go_at_call 41;((with_reducible refine (twantSchema_any T.out).mono ?_));rintro e w4 ⟨st1,rfl,x1,h1⟩;replace T:=aI h1;have X1:=aI x1;clear h1 x1)
  go_upto_region 7 with (go_at_call 42;((with_reducible refine (tnum_any T.out).mono ?_));rintro e w5 ⟨v,st2,rfl,i2,x2,h2⟩;replace T:=aI h2;have X2:=aI x2;have I2:=aI i2;clear h2 x2 i2)
  obtain ⟨Nx,hNx⟩:∃ n,w5.heap.size=n:=⟨_,rfl⟩
  replace T:=aI (T.out.new #[.int .i64 v,.slice none 0 0,.slice none 0 0,.slice none 0 0] 28 hNx)
  rw [hNx]
  clear hNx
  generalize w5.alloc (.cells #[.int .i64 v,.slice none 0 0,.slice none 0 0,.slice none 0 0] 28)=w6 at *
  obtain ⟨sxK,hsx⟩:∃ s,Sx.left st2=s:=⟨_,rfl⟩
  have HSX:=aI hsx
  have HTK:=aI (rk_tok T.out).1
  clear hsx
  replace T:=aI ((T.out.push 49 4).add (keeps_flat ([]:List Knd) []) rfl)
  go_loopg [27] sxK (fun r v3 wr=>∃ (st1:Sx.St) (acc2:List Knd) (xs:List Value) (M1:List Nat) (u:Value),PH (rk w Np s tk) st1 M1 [(Nx,28,#[.int .i64 v,u,.slice none 0 0,.slice none 0 0]),(Nr,28,#[.int .i64 0,.slice none 0 0,.slice none 0 0,.slice none 0 0])] [⟨49,4,u,acc2.length,xs⟩] ((fun M W=>Flat M W acc2 xs)::[]) wr∧Sx.left st1=r∧acc2.length+r≤sxK∧(∀ x st',Sx.Nx (Sx.many (fun t=>t == Sx.sKind) Sx.kind st1.1.length acc2) st1 x st'→Sx.Nx (fun l=>Sx.many (fun t=>t == Sx.sKind) Sx.kind l.length [] l) st2 x st'))
  case atStart=>exact ⟨st2,[],[],_,_,T.out,HSX.out,by simp,fun x st' hx=>hx⟩
  case round =>
   clear T
   obtain ⟨st1K,acc2,xs2,M2,u,hH,hlf,hal,hnx⟩:=hrel
   obtain ⟨wo,rfl⟩:∃ wo:World,wo=wr:=⟨_,rfl⟩
   obtain ⟨gkK,rfl⟩:∃ g,g=gk:=⟨_,rfl⟩
   have T:=aI hH
   have HX:=aI hnx
   have HL:=aI hlf
   clear hH hnx hlf
   obtain ⟨l1,f1⟩:=st1K
   obtain ⟨A6,c6,rfl⟩:=T.out.form
   have HA8:=aI (show acc2.length≤8193 by have h1:=HTK.out;have h2:=HSX.out;unfold Sx.left at h2;split at h2 <;> omega)
   have q:((Sx.ofT (Sx.pk (l1,f1))).toList == [107,105,110,100])=(Sx.pk (l1,f1) == Sx.sKind):=by rw [ByteArray.toList_eq,ofT_list];rfl
   obtain ⟨b,hb⟩:∃ b,(Sx.pk (l1,f1) == Sx.sKind)=b:=⟨_,rfl⟩
   rw [hb] at q
   cases b
   rotate_left
   ·obtain ⟨t,r,rfl,rfl⟩:∃ t r,l1=t::r∧f1=false:=by
     cases f1
     ·cases l1 with
      | nil=>exact absurd (hb.symm.trans (show (([]:Sx.Txt) == Sx.sKind)=false from rfl)) (by simp)
      | cons t r=>exact ⟨t,r,rfl,rfl⟩
     ·exact absurd (hb.symm.trans (show (([]:Sx.Txt) == Sx.sKind)=false from rfl)) (by simp)
    have HBB:=aI (show (fun t=>t == Sx.sKind) t.1=true from hb)
    clear hb
    go_wp2_with (go_at_call 43;((with_reducible refine (look_any T.out).mono ?_));rintro e w7 ⟨rfl,hb1⟩;replace T:=aI (T.out.below hb1);clear hb1;have q:=T.out.box (.head _);have q3:=q.cell 1;(simp at q3);clear q)
    go_region_law (first | (obtain ⟨i0,hI,hz0,hz1,hz2⟩:=info_parts infoKnd;refine step_append_ph (by rfl) _ _ 24 (by rfl) 49 i0 _ 4 56 Tryz.underlying24 hI hz0 hz1 hz2 rfl (by decide) (T2.out.below ((Below.refl _ _).alloc (Nat.le_refl _) _)) (by rfl) _ _ 1 1 [.string a.1,.int .i64 a.2.1,.int .i64 a.2.2.1,.slice A1 (Sc.flds a).length c1] (by rfl) (reads_blk (Blk.new _ _ _) rfl) (by simp [Value.oneCell']) (by have:=HA8.out;unfold maxLen;omega) (by have:=HA8.out;omega) ?_;intro v7 w7 M7 h7 _;obtain ⟨A8,c8,rfl⟩:=h7.form;have q:=h7.box (.head _);have q3:=q.cell 1;(simp at q3);have f3:=q.frozen 1;clear q;have T3:=aI h7;clear h7 hI hz0 hz1 hz2) | (go_simp;go_at_call 44;refine (tkind_any T.out.drew).mono ?_;rintro e w6 ⟨a,us,st3,M3,rfl,x3,h3⟩;obtain ⟨A1,c1,rfl,r1,r2,r3,r4,r5,r6⟩:=rep_knd (h3.fact (.head _));clear r1 r2 r3 r4 r5 r6;have q:=h3.box (.head _);have q3:=q.cell 1;(simp at q3);clear q;have T2:=aI h3;have X5:=aI x3;have q3b:∀ o,(w6.alloc o).cell? ⟨Nx,1,none⟩=some (.slice A6 acc2.length c6):=(fun o=>by have q:=(T2.out.below ((Below.refl _ _).alloc (Nat.le_refl _) o)).box (.head _);have q:=q.cell 1;simpa using q);clear h3 x3))
    all_goals
     have T4:=T3.out.set0 1 (.slice A8 (acc2.length+1) c8)
     have T5:=aI ((T4.fswap.flat (Flat.single (T4.fact (.head _)))).less (L':=_::_) fun P hP=>by
      rcases aL hP with rfl | hP
      ·exact .head _
      ·exact .tail _ (.tail _ hP))
     have hlt:=Sx.left_eats Sx.eats_kind X5.out
     rw [HL.out] at hlt
     clear T T2 T3 T4 q3b
     go_wp2_with fail
     go_roundg (Sx.left st3)
     case measure=>exact hlt
     case rel=>exact ⟨st3,acc2++[a],_,_,_,by rw [aK];exact T5.out,rfl,by rw [aK,List.length_singleton];omega,fun x st' hx=>HX.out _ _ (Sx.nx_many_step Sx.eats_kind HBB.out X5.out hx)⟩
   ·have HST:=aI (show Sx.Nx (Sx.many (fun t=>t == Sx.sKind) Sx.kind l1.length acc2) (l1,f1) acc2 (l1,f1) from Sx.nx_many_stop (begins:=(fun t=>t == Sx.sKind)) (read:=Sx.kind) (st:=(l1,f1)) (f:=l1.length) (acc:=acc2) (fun hf t r hl=>by
      have hf:f1=false:=hf
      subst hf
      obtain rfl:l1=t::r:=hl
      exact hb))
    have XXK:=aI (HX.out _ _ HST.out)
    clear hb HX HST HL HA8 HTK HSX
    go_upto_region 9 with (go_at_call 43;((with_reducible refine (look_any T.out).mono ?_));rintro e w7 ⟨rfl,hb1⟩;replace T:=aI (T.out.below hb1);clear hb1)
    clear q hal
    obtain ⟨AZ,cm,M',hv,d1,d2,h4,_⟩:=T.out.freeze (α:=_) rfl rfl (T.out.fact (.head _))
    injection hv with hv1 hv2 hv3
    subst hv1 hv3
    have DK:=aI (show acc2.length≤c6∧c6≤9223372036854775807 from ⟨d1,d2⟩)
    obtain ⟨ks,rfl⟩:∃ l:List Knd,l=acc2:=⟨_,rfl⟩
    obtain ⟨AK,rfl⟩:∃ l:Option Addr,l=A6:=⟨_,rfl⟩
    obtain ⟨cK,rfl⟩:∃ l:Nat,l=c6:=⟨_,rfl⟩
    replace T:=aI (show PH (rk w Np s tk) (l1,f1) M' [(Nx,28,#[.int .i64 v,.slice AK ks.length cK,.slice none 0 0,.slice none 0 0]),(Nr,28,#[.int .i64 0,.slice none 0 0,.slice none 0 0,.slice none 0 0])] [] ((fun M W=>SlAt M W AK ks)::[]) _ from h4.less fun P hP=>by
     rcases aL hP with rfl | hP
     ·exact .head _
     ·exact .tail _ (.tail _ hP))
    clear hv2 h4 d1 d2
    obtain ⟨stK,hstK⟩:∃ st:Sx.St,(l1,f1)=st:=⟨_,rfl⟩
    rw [hstK] at T XXK
    clear hstK
    obtain ⟨sxL,hsx⟩:∃ s,Sx.left stK=s:=⟨_,rfl⟩
    have HSX:=aI hsx
    have HTK:=aI (rk_tok T.out).1
    clear hsx
    replace T:=aI ((T.out.push 55 3).add (keeps_flat ([]:List Lif) []) rfl)
    go_loopg [37] sxL (fun r v3 wr=>∃ (st1:Sx.St) (acc2:List Lif) (xs:List Value) (M1:List Nat) (u:Value),PH (rk w Np s tk) st1 M1 [(Nx,28,#[.int .i64 v,.slice AK ks.length cK,u,.slice none 0 0]),(Nr,28,#[.int .i64 0,.slice none 0 0,.slice none 0 0,.slice none 0 0])] [⟨55,3,u,acc2.length,xs⟩] ((fun M W=>Flat M W acc2 xs)::(fun M W=>SlAt M W AK ks)::[]) wr∧Sx.left st1=r∧acc2.length+r≤sxL∧(∀ x st',Sx.Nx (Sx.many (fun t=>t == Sx.sLife) Sx.life st1.1.length acc2) st1 x st'→Sx.Nx (fun l=>Sx.many (fun t=>t == Sx.sLife) Sx.life l.length [] l) stK x st'))
    case atStart=>exact ⟨stK,[],[],_,_,T.out,HSX.out,by simp,fun x st' hx=>hx⟩
    case round =>
     clear T
     obtain ⟨st1L,acc2,xs2,M2,u,hH,hlf,hal,hnx⟩:=hrel
     obtain ⟨wo,rfl⟩:∃ wo:World,wo=wr:=⟨_,rfl⟩
     obtain ⟨gkL,rfl⟩:∃ g,g=gk:=⟨_,rfl⟩
     have T:=aI hH
     have HX:=aI hnx
     have HL:=aI hlf
     clear hH hnx hlf
     obtain ⟨l1,f1⟩:=st1L
     obtain ⟨A6,c6,rfl⟩:=T.out.form
     have HA8:=aI (show acc2.length≤8193 by have h1:=HTK.out;have h2:=HSX.out;unfold Sx.left at h2;split at h2 <;> omega)
     have q:((Sx.ofT (Sx.pk (l1,f1))).toList == [108,105,102,101])=(Sx.pk (l1,f1) == Sx.sLife):=by rw [ByteArray.toList_eq,ofT_list];rfl
     obtain ⟨b,hb⟩:∃ b,(Sx.pk (l1,f1) == Sx.sLife)=b:=⟨_,rfl⟩
     rw [hb] at q
     cases b
     rotate_left
     ·obtain ⟨t,r,rfl,rfl⟩:∃ t r,l1=t::r∧f1=false:=by
       cases f1
       ·cases l1 with
        | nil=>exact absurd (hb.symm.trans (show (([]:Sx.Txt) == Sx.sLife)=false from rfl)) (by simp)
        | cons t r=>exact ⟨t,r,rfl,rfl⟩
       ·exact absurd (hb.symm.trans (show (([]:Sx.Txt) == Sx.sLife)=false from rfl)) (by simp)
      have HBB:=aI (show (fun t=>t == Sx.sLife) t.1=true from hb)
      clear hb
      go_wp2_with (go_at_call 43;((with_reducible refine (look_any T.out).mono ?_));rintro e w7 ⟨rfl,hb1⟩;replace T:=aI (T.out.below hb1);clear hb1;have q:=T.out.box (.head _);have q3:=q.cell 2;(simp at q3);clear q)
      go_region_law (first | (obtain ⟨i0,hI,hz0,hz1,hz2⟩:=info_parts infoLif;refine step_append_ph (by rfl) _ _ 25 (by rfl) 55 i0 _ 3 64 Tryz.underlying25 hI hz0 hz1 hz2 rfl (by decide) (T2.out.below ((Below.refl _ _).alloc (Nat.le_refl _) _)) (by rfl) _ _ 1 1 [.string a.1,.slice A1 a.2.1.length c1,.slice B1 a.2.2.length d1] (by rfl) (reads_blk (Blk.new _ _ _) rfl) (by simp [Value.oneCell']) (by have:=HA8.out;unfold maxLen;omega) (by have:=HA8.out;omega) ?_;intro v7 w7 M7 h7 _;obtain ⟨A8,c8,rfl⟩:=h7.form;have q:=h7.box (.head _);have q3:=q.cell 2;(simp at q3);have f3:=q.frozen 2;clear q;have T3:=aI h7;clear h7 hI hz0 hz1 hz2) | (go_simp;go_at_call 45;refine (tlife_any T.out.drew).mono ?_;rintro e w6 ⟨a,us,st3,M3,rfl,x3,h3⟩;obtain ⟨A1,c1,B1,d1,rfl,r1,r2,r3,r4,r5,r6,r7⟩:=rep_lif (h3.fact (.head _));clear r1 r2 r3 r4 r5 r6 r7;have q:=h3.box (.head _);have q3:=q.cell 2;(simp at q3);clear q;have T2:=aI h3;have X5:=aI x3;have q3b:∀ o,(w6.alloc o).cell? ⟨Nx,2,none⟩=some (.slice A6 acc2.length c6):=(fun o=>by have q:=(T2.out.below ((Below.refl _ _).alloc (Nat.le_refl _) o)).box (.head _);have q:=q.cell 2;simpa using q);clear h3 x3))
      all_goals
       have T4:=T3.out.set0 2 (.slice A8 (acc2.length+1) c8)
       have T5:=aI ((T4.fswap.flat (Flat.single (T4.fact (.head _)))).less (L':=_::_) fun P hP=>by
        rcases aL hP with rfl | hP
        ·exact .head _
        ·exact .tail _ (.tail _ hP))
       have hlt:=Sx.left_eats Sx.eats_life X5.out
       rw [HL.out] at hlt
       clear T T2 T3 T4 q3b
       go_wp2_with fail
       go_roundg (Sx.left st3)
       case measure=>exact hlt
       case rel=>exact ⟨st3,acc2++[a],_,_,_,by rw [aK];exact T5.out,rfl,by rw [aK,List.length_singleton];omega,fun x st' hx=>HX.out _ _ (Sx.nx_many_step Sx.eats_life HBB.out X5.out hx)⟩
     ·have HST:=aI (show Sx.Nx (Sx.many (fun t=>t == Sx.sLife) Sx.life l1.length acc2) (l1,f1) acc2 (l1,f1) from Sx.nx_many_stop (begins:=(fun t=>t == Sx.sLife)) (read:=Sx.life) (st:=(l1,f1)) (f:=l1.length) (acc:=acc2) (fun hf t r hl=>by
        have hf:f1=false:=hf
        subst hf
        obtain rfl:l1=t::r:=hl
        exact hb))
      have XXL:=aI (HX.out _ _ HST.out)
      clear hb HX HST HL HA8 HTK HSX
      go_upto_region 11 with (go_at_call 43;((with_reducible refine (look_any T.out).mono ?_));rintro e w7 ⟨rfl,hb1⟩;replace T:=aI (T.out.below hb1);clear hb1)
      clear q hal
      obtain ⟨AZ,cm,M',hv,d1,d2,h4,_⟩:=T.out.freeze (α:=_) rfl rfl (T.out.fact (.head _))
      injection hv with hv1 hv2 hv3
      subst hv1 hv3
      have DL:=aI (show acc2.length≤c6∧c6≤9223372036854775807 from ⟨d1,d2⟩)
      obtain ⟨ls,rfl⟩:∃ l:List Lif,l=acc2:=⟨_,rfl⟩
      obtain ⟨AL,rfl⟩:∃ l:Option Addr,l=A6:=⟨_,rfl⟩
      obtain ⟨cL,rfl⟩:∃ l:Nat,l=c6:=⟨_,rfl⟩
      replace T:=aI (show PH (rk w Np s tk) (l1,f1) M' [(Nx,28,#[.int .i64 v,.slice AK ks.length cK,.slice AL ls.length cL,.slice none 0 0]),(Nr,28,#[.int .i64 0,.slice none 0 0,.slice none 0 0,.slice none 0 0])] [] ((fun M W=>SlAt M W AL ls)::(fun M W=>SlAt M W AK ks)::[]) _ from h4.less fun P hP=>by
       rcases aL hP with rfl | hP
       ·exact .head _
       ·exact .tail _ (.tail _ hP))
      clear hv2 h4 d1 d2
      obtain ⟨stL,hstL⟩:∃ st:Sx.St,(l1,f1)=st:=⟨_,rfl⟩
      rw [hstL] at T XXL
      clear hstL
      obtain ⟨sxR,hsx⟩:∃ s,Sx.left stL=s:=⟨_,rfl⟩
      have HSX:=aI hsx
      have HTK:=aI (rk_tok T.out).1
      clear hsx
      replace T:=aI ((T.out.push 58 5).add (keeps_flat ([]:List Rul) []) rfl)
      go_loopg [47] sxR (fun r v3 wr=>∃ (st1:Sx.St) (acc2:List Rul) (xs:List Value) (M1:List Nat) (u:Value),PH (rk w Np s tk) st1 M1 [(Nx,28,#[.int .i64 v,.slice AK ks.length cK,.slice AL ls.length cL,u]),(Nr,28,#[.int .i64 0,.slice none 0 0,.slice none 0 0,.slice none 0 0])] [⟨58,5,u,acc2.length,xs⟩] ((fun M W=>Flat M W acc2 xs)::(fun M W=>SlAt M W AL ls)::(fun M W=>SlAt M W AK ks)::[]) wr∧Sx.left st1=r∧acc2.length+r≤sxR∧(∀ x st',Sx.Nx (Sx.many (fun t=>t == Sx.sRule) Sx.rule st1.1.length acc2) st1 x st'→Sx.Nx (fun l=>Sx.many (fun t=>t == Sx.sRule) Sx.rule l.length [] l) stL x st'))
      case atStart=>exact ⟨stL,[],[],_,_,T.out,HSX.out,by simp,fun x st' hx=>hx⟩
      case round =>
       clear T
       obtain ⟨st1R,acc2,xs2,M2,u,hH,hlf,hal,hnx⟩:=hrel
       obtain ⟨wo,rfl⟩:∃ wo:World,wo=wr:=⟨_,rfl⟩
       obtain ⟨gkR,rfl⟩:∃ g,g=gk:=⟨_,rfl⟩
       have T:=aI hH
       have HX:=aI hnx
       have HL:=aI hlf
       clear hH hnx hlf
       obtain ⟨l1,f1⟩:=st1R
       obtain ⟨A6,c6,rfl⟩:=T.out.form
       have HA8:=aI (show acc2.length≤8193 by have h1:=HTK.out;have h2:=HSX.out;unfold Sx.left at h2;split at h2 <;> omega)
       have q:((Sx.ofT (Sx.pk (l1,f1))).toList == [114,117,108,101])=(Sx.pk (l1,f1) == Sx.sRule):=by rw [ByteArray.toList_eq,ofT_list];rfl
       obtain ⟨b,hb⟩:∃ b,(Sx.pk (l1,f1) == Sx.sRule)=b:=⟨_,rfl⟩
       rw [hb] at q
       cases b
       rotate_left
       ·obtain ⟨t,r,rfl,rfl⟩:∃ t r,l1=t::r∧f1=false:=by
         cases f1
         ·cases l1 with
          | nil=>exact absurd (hb.symm.trans (show (([]:Sx.Txt) == Sx.sRule)=false from rfl)) (by simp)
          | cons t r=>exact ⟨t,r,rfl,rfl⟩
         ·exact absurd (hb.symm.trans (show (([]:Sx.Txt) == Sx.sRule)=false from rfl)) (by simp)
        have HBB:=aI (show (fun t=>t == Sx.sRule) t.1=true from hb)
        clear hb
        go_wp2_with (go_at_call 43;((with_reducible refine (look_any T.out).mono ?_));rintro e w7 ⟨rfl,hb1⟩;replace T:=aI (T.out.below hb1);clear hb1;have q:=T.out.box (.head _);have q3:=q.cell 3;(simp at q3);clear q)
        go_region_law (first | (obtain ⟨i0,hI,hz0,hz1,hz2⟩:=info_parts infoRul;refine step_append_ph (by rfl) _ _ 26 (by rfl) 58 i0 _ 5 72 Tryz.underlying26 hI hz0 hz1 hz2 rfl (by decide) (T2.out.below ((Below.refl _ _).alloc (Nat.le_refl _) _)) (by rfl) _ _ 1 1 [.string a.1,.string a.2.1,.string a.2.2.1,.string a.2.2.2.1,.int .i64 a.2.2.2.2] (by rfl) (reads_blk (Blk.new _ _ _) rfl) (by simp [Value.oneCell']) (by have:=HA8.out;unfold maxLen;omega) (by have:=HA8.out;omega) ?_;intro v7 w7 M7 h7 _;obtain ⟨A8,c8,rfl⟩:=h7.form;have q:=h7.box (.head _);have q3:=q.cell 3;(simp at q3);have f3:=q.frozen 3;clear q;have T3:=aI h7;clear h7 hI hz0 hz1 hz2) | (go_simp;go_at_call 46;refine (trule_any T.out.drew).mono ?_;rintro e w6 ⟨a,us,st3,M3,rfl,x3,h3⟩;obtain ⟨rfl,r1,r2,r3,r4,r5⟩:=rep_rul (h3.fact (.head _));clear r1 r2 r3 r4 r5;have q:=h3.box (.head _);have q3:=q.cell 3;(simp at q3);clear q;have T2:=aI h3;have X5:=aI x3;have q3b:∀ o,(w6.alloc o).cell? ⟨Nx,3,none⟩=some (.slice A6 acc2.length c6):=(fun o=>by have q:=(T2.out.below ((Below.refl _ _).alloc (Nat.le_refl _) o)).box (.head _);have q:=q.cell 3;simpa using q);clear h3 x3))
        all_goals
         have T4:=T3.out.set0 3 (.slice A8 (acc2.length+1) c8)
         have T5:=aI ((T4.fswap.flat (Flat.single (T4.fact (.head _)))).less (L':=_::_) fun P hP=>by
          rcases aL hP with rfl | hP
          ·exact .head _
          ·exact .tail _ (.tail _ hP))
         have hlt:=Sx.left_eats Sx.eats_rule X5.out
         rw [HL.out] at hlt
         clear T T2 T3 T4 q3b
         go_wp2_with fail
         go_roundg (Sx.left st3)
         case measure=>exact hlt
         case rel=>exact ⟨st3,acc2++[a],_,_,_,by rw [aK];exact T5.out,rfl,by rw [aK,List.length_singleton];omega,fun x st' hx=>HX.out _ _ (Sx.nx_many_step Sx.eats_rule HBB.out X5.out hx)⟩
       ·have HST:=aI (show Sx.Nx (Sx.many (fun t=>t == Sx.sRule) Sx.rule l1.length acc2) (l1,f1) acc2 (l1,f1) from Sx.nx_many_stop (begins:=(fun t=>t == Sx.sRule)) (read:=Sx.rule) (st:=(l1,f1)) (f:=l1.length) (acc:=acc2) (fun hf t r hl=>by
          have hf:f1=false:=hf
          subst hf
          obtain rfl:l1=t::r:=hl
          exact hb))
        have XXR:=aI (HX.out _ _ HST.out)
        clear hb HX HST HL HA8 HTK HSX
        go_upto_region 13 with (go_at_call 43;((with_reducible refine (look_any T.out).mono ?_));rintro e w7 ⟨rfl,hb1⟩;replace T:=aI (T.out.below hb1);clear hb1)
        clear q hal
        obtain ⟨AZ,cm,M',hv,d1,d2,h4,_⟩:=T.out.freeze (α:=_) rfl rfl (T.out.fact (.head _))
        injection hv with hv1 hv2 hv3
        subst hv1 hv3
        have DR:=aI (show acc2.length≤c6∧c6≤9223372036854775807 from ⟨d1,d2⟩)
        obtain ⟨rs,rfl⟩:∃ l:List Rul,l=acc2:=⟨_,rfl⟩
        obtain ⟨AR,rfl⟩:∃ l:Option Addr,l=A6:=⟨_,rfl⟩
        obtain ⟨cR,rfl⟩:∃ l:Nat,l=c6:=⟨_,rfl⟩
        replace T:=aI (show PH (rk w Np s tk) (l1,f1) M' [(Nx,28,#[.int .i64 v,.slice AK ks.length cK,.slice AL ls.length cL,.slice AR rs.length cR]),(Nr,28,#[.int .i64 0,.slice none 0 0,.slice none 0 0,.slice none 0 0])] [] ((fun M W=>SlAt M W AR rs)::(fun M W=>SlAt M W AL ls)::(fun M W=>SlAt M W AK ks)::[]) _ from h4.less fun P hP=>by
         rcases aL hP with rfl | hP
         ·exact .head _
         ·exact .tail _ (.tail _ hP))
        clear hv2 h4 d1 d2
        obtain ⟨stR,hstR⟩:∃ st:Sx.St,(l1,f1)=st:=⟨_,rfl⟩
        rw [hstR] at T XXR
        clear hstR
        have XS:=aI (show Sx.Nx Sx.schema (tk.map (tokOf s),false) (v,ks,ls,rs) stR from Sx.nx_bind X1.out (Sx.nx_bind X2.out (Sx.nx_bind XXK.out (Sx.nx_bind XXL.out (Sx.nx_bind XXR.out (Sx.nx_ret _ _))))))
        clear X1 X2 XXK XXL XXR
        obtain ⟨cs,hb,AP,cP,I,rfl,hst,hI,hsl,hok⟩:=T.out.pbox
        obtain ⟨l,f⟩:=stR
        have p0:=hb.cell 0
        have p1:=hb.cell 1
        have p2:=hb.cell 2
        have p3:=hb.cell 3
        simp at p0 p1 p2 p3
        obtain ⟨xs1,xs2⟩:=Sx.nx_fin XS.out
        clear hb
        have hst:l=(tk.map (tokOf s)).drop I:=hst
        have hI2:=HNT.out
        rw [HNT.out] at p1
        have k0:(0:Int)≤(I:Int):=Int.natCast_nonneg _
        have C:=T.out.box (.tail _ (.head _));have y0:=C.cell 0;have y1:=C.cell 1;have y2:=C.cell 2;have y3:=C.cell 3;have g0:=C.frozen 0;have g1:=C.frozen 1;have g2:=C.frozen 2;have g3:=C.frozen 3
        simp at y0 y1 y2 y3
        dsimp only at g0 g1 g2 g3
        clear C
        have PZ:=aI (show PH (rk w Np s tk) (l,f) M' [(Nr,28,#[.int .i64 0,.slice none 0 0,.slice none 0 0,.slice none 0 0]),(Nx,28,#[.int .i64 v,.slice AK ks.length cK,.slice AL ls.length cL,.slice AR rs.length cR])] [] _ _ from (((T.out.bswap.set0 0 (.int .i64 0)).set0 1 (.slice none 0 0)).set0 2 (.slice none 0 0)).set0 3 (.slice none 0 0))
        cases l with
        | cons t r =>
         have HQ:=aI (show pr=(Sx.noSch,(t.2:Int),2) by
          cases f
          ·exact HP3.out _ _ _ (xs1 rfl)
          ·exact HP2.out _ _ (xs2 rfl))
         have hIk:I < tk.length:=by
          rcases Nat.lt_or_ge I tk.length with h | h
          ·exact h
          ·rw [List.drop_eq_nil_of_le (by rw [List.length_map];exact h)] at hst;cases hst
         obtain ⟨b,o,rfl,hbM,d0,d1⟩:=tk_at hsl I hIk
         have ht2:tk[I].1=t.2:=by
          rw [drop_at (by rw [List.length_map];exact hIk)] at hst
          injection hst with hst _
          rw [hst,List.getElem_map];rfl
         rw [ht2] at d0
         have k2:(I:Int) < (nt:Int):=by omega
         obtain ⟨cs9,H9⟩:=T.out.it
         have hNrM:=(H9.h.bs _ (.tail _ (.tail _ (.head _)))).1
         have hnd:=H9.h.nd
         simp only [List.map_cons,List.map_nil,List.nodup_cons,List.mem_cons,List.not_mem_nil,or_false,not_or] at hnd
         have hne1:Np≠Nr:=hnd.1.2
         have hne2:b≠Nr:=fun e=>hbM (e ▸ hNrM)
         have hne3:Nr≠Np:=fun e=>hne1 e.symm
         have hne4:Nr≠b:=fun e=>hne2 e.symm
         clear hbM H9 hNrM hnd
         clear hsl hok xs1 xs2 HP1 HP2 HP3 HP4 HP5 HP6 hst hI hI2 CS d1 ht2 hIk
         go_wp2_with fail
         go_region
         go_wp2_with fail
         go_region
         go_wp2_with fail
         clear y0 y1 y2 y3 g0 g1 g2 g3
         have PZ2:=aI (PZ.out.drew.drew)
         generalize (((w7.setCell ⟨Nr,0,none⟩ (.int .i64 0)).setCell ⟨Nr,1,none⟩ (.slice none 0 0)).setCell ⟨Nr,2,none⟩ (.slice none 0 0)).setCell ⟨Nr,3,none⟩ (.slice none 0 0)=w9 at *
         have B:=PZ2.out.box (.head _);have y0:=B.cell 0;have y1:=B.cell 1;have y2:=B.cell 2;have y3:=B.cell 3
         simp at y0 y1 y2 y3
         refine bodyPost_ret (v:=.tuple #[.agg #[.int .i64 0,.slice none 0 0,.slice none 0 0,.slice none 0 0],.int .i64 (t.2:Int),.int .i64 2]) ?_ rfl ?_
         ·simp [results,Tryz.results14,go_sem,y0,y1,y2,y3]
         ·exact ⟨[.int .i64 0,.slice none 0 0,.slice none 0 0,.slice none 0 0],by rw [HQ.out],by rw [HQ.out];exact noSch_rep _,PZ2.out.bl⟩
        | nil =>
         have k2:¬ (I:Int) < (nt:Int):=by
          have h:tk.length≤I:=by
           have:=congrArg List.length hst
           rw [List.length_drop,List.length_map] at this
           simp at this;omega
          omega
         clear hsl hok hst hI hI2 CS
         cases f
         ·have hsc:=xs1 rfl
          by_cases hsat:sat < n
          ·have HQ:=aI (HP4.out _ hsc hsat)
           have z9:(sat:Int) < (n:Int):=by omega
           clear hsc xs1 xs2 HP1 HP2 HP3 HP4 HP5 HP6
           go_wp2_with fail
           go_region
           go_wp2_with fail
           clear y0 y1 y2 y3 g0 g1 g2 g3
           have PZ2:=aI (PZ.out.drew)
           generalize (((w7.setCell ⟨Nr,0,none⟩ (.int .i64 0)).setCell ⟨Nr,1,none⟩ (.slice none 0 0)).setCell ⟨Nr,2,none⟩ (.slice none 0 0)).setCell ⟨Nr,3,none⟩ (.slice none 0 0)=w9 at *
           have B:=PZ2.out.box (.head _);have y0:=B.cell 0;have y1:=B.cell 1;have y2:=B.cell 2;have y3:=B.cell 3
           simp at y0 y1 y2 y3
           refine bodyPost_ret (v:=.tuple #[.agg #[.int .i64 0,.slice none 0 0,.slice none 0 0,.slice none 0 0],.int .i64 (sat:Int),.int .i64 2]) ?_ rfl ?_
           ·simp [results,Tryz.results14,go_sem,y0,y1,y2,y3]
           ·exact ⟨[.int .i64 0,.slice none 0 0,.slice none 0 0,.slice none 0 0],by rw [HQ.out],by rw [HQ.out];exact noSch_rep _,PZ2.out.bl⟩
          ·have z9:(n:Int)≤(sat:Int):=by omega
           have HXR:=aI (show Mem.rep M' w7 (((v,ks,ls,rs)):Sch) [.int .i64 v,.slice AK ks.length cK,.slice AL ls.length cL,.slice AR rs.length cR] from ⟨[_],_,rfl,⟨rfl,I2.out⟩,[_],_,rfl,⟨AK,cK,rfl,DK.out.1,DK.out.2,T.out.fact (.tail _ (.tail _ (.head _)))⟩,[_],_,rfl,⟨AL,cL,rfl,DL.out.1,DL.out.2,T.out.fact (.tail _ (.head _))⟩,⟨AR,cR,rfl,DR.out.1,DR.out.2,T.out.fact (.head _)⟩⟩)
           have CV:=aI (fun (W:World) (hb:Below w7.heap.size w7 W)=>show Calls Tryz.prog 47 #[.agg #[.int .i64 v,.slice AK ks.length cK,.slice AL ls.length cL,.slice AR rs.length cR]] W fun e w'=>e=.returned (.int .i64 (Sx.valid (v,ks,ls,rs)))∧Below W.heap.size W w' from rValid_sch (v,ks,ls,rs) _ W (Mem.keep (Mem.sub HXR.out (fun g hg=>by cases hg)) (Chg.of_below hb)) (Sx.schema_sz HTL.out hsc) (Sx.schema_szW hsc))
           replace T:=aI (T.out.add (keeps_rep (((v,ks,ls,rs)):Sch) _) HXR.out)
           have HQ5:=aI (HP5.out _ hsc hsat)
           have HQ6:=aI (HP6.out _ hsc hsat)
           obtain ⟨vv,hvv⟩:∃ z,Sx.valid (v,ks,ls,rs)=z:=⟨_,rfl⟩
           rw [hvv] at CV HQ5 HQ6
           have B:=T.out.box (.head _);have z0:=B.cell 0;have z1:=B.cell 1;have z2:=B.cell 2;have z3:=B.cell 3
           simp at z0 z1 z2 z3
           clear B hsc hvv xs1 xs2 HP1 HP2 HP3 HP4 HP5 HP6 HXR
           go_wp2_with fail
           go_region
           by_cases hv0:vv=0
           ·subst hv0
            have HQ:=aI (HQ5.out rfl)
            clear HQ5 HQ6 PZ
            go_upto_region 19 with (go_at_call 47;((with_reducible refine (CV.out _ (below_drw _)).mono ?_));rintro e wv ⟨rfl,hb2⟩;replace T:=aI (T.out.drew.below hb2);clear hb2;clear z0 z1 z2 z3 y0 y1 y2 y3 g0 g1 g2 g3)
            have B:=T.out.box (.head _);have z0:=B.cell 0;have z1:=B.cell 1;have z2:=B.cell 2;have z3:=B.cell 3
            have C:=T.out.box (.tail _ (.head _));have y0:=C.cell 0;have y1:=C.cell 1;have y2:=C.cell 2;have y3:=C.cell 3;have g0:=C.frozen 0;have g1:=C.frozen 1;have g2:=C.frozen 2;have g3:=C.frozen 3
            simp at z0 z1 z2 z3 y0 y1 y2 y3
            dsimp only at g0 g1 g2 g3
            clear B C
            have PZ:=aI (show PH (rk w Np s tk) ([],false) M' [(Nr,28,#[.int .i64 v,.slice AK ks.length cK,.slice AL ls.length cL,.slice AR rs.length cR]),(Nx,28,#[.int .i64 v,.slice AK ks.length cK,.slice AL ls.length cL,.slice AR rs.length cR])] [] _ _ from (((T.out.bswap.set0 0 (.int .i64 v)).set0 1 (.slice AK ks.length cK)).set0 2 (.slice AL ls.length cL)).set0 3 (.slice AR rs.length cR))
            go_wp2_with fail
            clear z0 z1 z2 z3 y0 y1 y2 y3 g0 g1 g2 g3
            generalize (((wv.setCell ⟨Nr,0,none⟩ (.int .i64 v)).setCell ⟨Nr,1,none⟩ (.slice AK ks.length cK)).setCell ⟨Nr,2,none⟩ (.slice AL ls.length cL)).setCell ⟨Nr,3,none⟩ (.slice AR rs.length cR)=w9 at *
            have B:=PZ.out.box (.head _);have y0:=B.cell 0;have y1:=B.cell 1;have y2:=B.cell 2;have y3:=B.cell 3
            simp at y0 y1 y2 y3
            refine bodyPost_ret (v:=.tuple #[.agg #[.int .i64 v,.slice AK ks.length cK,.slice AL ls.length cL,.slice AR rs.length cR],.int .i64 0,.int .i64 0]) ?_ rfl ?_
            ·simp [results,Tryz.results14,go_sem,y0,y1,y2,y3]
            ·exact ⟨[.int .i64 v,.slice AK ks.length cK,.slice AL ls.length cL,.slice AR rs.length cR],by rw [HQ.out],by rw [HQ.out];exact Mem.sub (PZ.out.fact (.head _)) (fun g hg=>by cases hg),PZ.out.bl⟩
           ·have HQ:=aI (HQ6.out hv0)
            have q1:(vv == 0)=false:=by simpa using hv0
            have q2:(vv != 0)=true:=by simpa using hv0
            clear HQ5 HQ6 hv0 PZ
            go_upto_region 18 with (go_at_call 47;((with_reducible refine (CV.out _ (below_drw _)).mono ?_));rintro e wv ⟨rfl,hb2⟩;replace T:=aI (T.out.drew.below hb2);clear hb2;clear z0 z1 z2 z3 y0 y1 y2 y3 g0 g1 g2 g3)
            have C:=T.out.box (.tail _ (.head _));have y0:=C.cell 0;have y1:=C.cell 1;have y2:=C.cell 2;have y3:=C.cell 3;have g0:=C.frozen 0;have g1:=C.frozen 1;have g2:=C.frozen 2;have g3:=C.frozen 3
            simp at y0 y1 y2 y3
            dsimp only at g0 g1 g2 g3
            clear C
            have PZ2:=aI (show PH (rk w Np s tk) ([],false) M' [(Nr,28,#[.int .i64 0,.slice none 0 0,.slice none 0 0,.slice none 0 0]),(Nx,28,#[.int .i64 v,.slice AK ks.length cK,.slice AL ls.length cL,.slice AR rs.length cR])] [] _ _ from (((T.out.bswap.set0 0 (.int .i64 0)).set0 1 (.slice none 0 0)).set0 2 (.slice none 0 0)).set0 3 (.slice none 0 0))
            go_wp2_with fail
            clear y0 y1 y2 y3 g0 g1 g2 g3
            generalize (((wv.setCell ⟨Nr,0,none⟩ (.int .i64 0)).setCell ⟨Nr,1,none⟩ (.slice none 0 0)).setCell ⟨Nr,2,none⟩ (.slice none 0 0)).setCell ⟨Nr,3,none⟩ (.slice none 0 0)=w9 at *
            have B:=PZ2.out.box (.head _);have y0:=B.cell 0;have y1:=B.cell 1;have y2:=B.cell 2;have y3:=B.cell 3
            simp at y0 y1 y2 y3
            refine bodyPost_ret (v:=.tuple #[.agg #[.int .i64 0,.slice none 0 0,.slice none 0 0,.slice none 0 0],.int .i64 0,.int .i64 4]) ?_ rfl ?_
            ·simp [results,Tryz.results14,go_sem,y0,y1,y2,y3]
            ·exact ⟨[.int .i64 0,.slice none 0 0,.slice none 0 0,.slice none 0 0],by rw [HQ.out],by rw [HQ.out];exact noSch_rep _,PZ2.out.bl⟩
         ·have HQ:=aI (HP1.out (xs2 rfl))
          clear xs1 xs2 HP1 HP2 HP3 HP4 HP5 HP6
          go_wp2_with fail
          go_region
          go_wp2_with fail
          clear y0 y1 y2 y3 g0 g1 g2 g3
          have PZ2:=aI (PZ.out.drew)
          generalize (((w7.setCell ⟨Nr,0,none⟩ (.int .i64 0)).setCell ⟨Nr,1,none⟩ (.slice none 0 0)).setCell ⟨Nr,2,none⟩ (.slice none 0 0)).setCell ⟨Nr,3,none⟩ (.slice none 0 0)=w9 at *
          have B:=PZ2.out.box (.head _);have y0:=B.cell 0;have y1:=B.cell 1;have y2:=B.cell 2;have y3:=B.cell 3
          simp at y0 y1 y2 y3
          refine bodyPost_ret (v:=.tuple #[.agg #[.int .i64 0,.slice none 0 0,.slice none 0 0,.slice none 0 0],.int .i64 (sat:Int),.int .i64 2]) ?_ rfl ?_
          ·simp [results,Tryz.results14,go_sem,y0,y1,y2,y3]
          ·exact ⟨[.int .i64 0,.slice none 0 0,.slice none 0 0,.slice none 0 0],by rw [HQ.out],by rw [HQ.out];exact noSch_rep _,PZ2.out.bl⟩
end Go.Proofs.YtmplaikgbeeikaaGreatDoor
