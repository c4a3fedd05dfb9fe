/- Parts of the proof, joined: SxV7, SxE2, SxDec, SxS1, SxS2. -/
import Derived.Test.YtmplaikgbeeikaaGreatDoorS9
set_option maxRecDepth 100000
set_option maxHeartbeats 16000000
set_option linter.unusedVariables false
set_option linter.unusedSimpArgs false
set_option linter.unusedSectionVars false
namespace Go.Proofs.YtmplaikgbeeikaaGreatDoor
open Go Go.RowKit
section
theorem valid_ok {x:Sch} (h:Sx.valid x=0):Sx.okB x=true:=by
 unfold Sx.valid at h
 split at h
 ·assumption
 ·cases h
theorem print_any (x:Sch) (us:List Value) (w:World) (h:Mem.rep [] w x us) (hz:Sx.Sz x) (he:SEnv w):Calls Tryz.prog 20 #[.agg us.toArray] w fun e w'=>e=.returned (.string ⟨(Sx.print x).toArray⟩)/\Below w.heap.size w w':=by
 obtain ⟨A,c,B,d,C,e,rfl,s1,s2,s3,a1,b1,b2,b3,b4,b5,b6⟩:=rep_sch h
 obtain ⟨nk,hk⟩:=aX ((Sc.kinds x).length)
 obtain ⟨nl,hl⟩:=aX x.2.2.1.length
 obtain ⟨nr,hr⟩:=aX x.2.2.2.length
 rw [hk,hl,hr] at h
 obtain ⟨N,hN⟩:=aX w.heap.size
 obtain ⟨W0,hW0⟩:=aX (w.alloc (.cells #[.int .i64 x.1,.slice A nk c,.slice B nl d,.slice C nr e] 28))
 have hb0:Below w.heap.size w W0:=by rw [<-hW0];exact aP _ _
 have hbk:Blk W0 N 28 #[.int .i64 x.1,.slice A nk c,.slice B nl d,.slice C nr e]:=by rw [<-hW0,<-hN];exact Blk.new w _ _
 have T:=aI (((held0 W0 [] (fun _ h=>by cases h)).add (keeps_rep x _) (Mem.keep h (Chg.of_below hb0))).add (P:=fun M W=>N∉M/\Blk W N 28 #[.int .i64 x.1,.slice A nk c,.slice B nl d,.slice C nr e]) (keeps_blk _ _ _) ⟨by simp,hbk⟩)
 have CV:=aI (fun (W:World) (hb:Below W0.heap.size W0 W)=>show Calls Tryz.prog 21 #[.agg #[.int .i64 x.1,.slice A nk c,.slice B nl d,.slice C nr e]] W fun e w'=>e=.returned (.int .i64 (Sx.valid x))/\Below W.heap.size W w' from valid_any x _ W ((T.out.below hb).fact (.tail _ (.head _))) hz (he.to (hb0.trans (hb.mono hb0.size))))
 have CS:=aI (fun (W:World) (hok:Sx.okB x=true) (hb:Below W0.heap.size W0 W)=>show Calls Tryz.prog 51 #[.agg #[.int .i64 x.1,.slice A nk c,.slice B nl d,.slice C nr e]] W fun e w'=>e=.returned (.string ⟨(Sx.source x).toArray⟩)/\Below W.heap.size W w' from source_any x _ W ((T.out.below hb).fact (.tail _ (.head _))) hok (he.to (hb0.trans (hb.mono hb0.size))))
 have HB:=aI hb0
 have HW0:=aI hW0
 have HN:=aI hN
 have hp:Sx.print x=if Sx.valid x=0 then Sx.source x else []:=rfl
 have HOK:=aI (valid_ok (x:=x))
 obtain ⟨vv,hvv⟩:=aX (Sx.valid x)
 rw [hvv] at CV hp HOK
 show Calls Tryz.prog 20 #[.agg #[.int .i64 x.1,.slice A (Sc.kinds x).length c,.slice B x.2.2.1.length d,.slice C x.2.2.2.length e]] w _
 rw [hk,hl,hr]
 by_cases h0:vv=0
 ·rw [if_pos h0] at hp
  replace HOK:=aI (HOK.out h0)
  subst h0
  rw [hp]
  clear h s1 s2 s3 a1 b1 b2 b3 b4 b5 b6 hk hl hr hbk hb0 hW0 hN he hz hvv hp
  obtain ⟨z0,z1,z2,z3⟩:=aM4 ((T.out.fact (.head _)).2)
  go_enter Tryz.func20,Tryz.ntmps20
  go_upto_region 1 with fail
  rw [HW0.out,HN.out]
  go_wp2_with (first | (go_at_call 21;(with_reducible refine (CV.out _ T.out.bl).mono ?_);rintro e w2 ⟨rfl,hb2⟩;replace T:=aI (T.out.below hb2);clear hb2 z0 z1 z2 z3;obtain ⟨z0,z1,z2,z3⟩:=aM4 ((T.out.fact (.head _)).2)) | (go_at_call 51;(with_reducible refine (CS.out _ HOK.out T.out.bl).mono ?_);rintro e w2 ⟨rfl,hb2⟩;replace T:=aI (T.out.below hb2);clear hb2 z0 z1 z2 z3))
  go_ret
  exact ⟨rfl,HB.out.trans (T.out.bl.mono HB.out.size)⟩
 ·rw [if_neg h0] at hp
  rw [hp]
  have q1:(vv == 0)=false:=by simpa using h0
  have q2:(vv != 0)=true:=by simpa using h0
  clear h s1 s2 s3 a1 b1 b2 b3 b4 b5 b6 hk hl hr hbk hb0 hW0 hN he hz hvv hp h0
  obtain ⟨z0,z1,z2,z3⟩:=aM4 ((T.out.fact (.head _)).2)
  go_enter Tryz.func20,Tryz.ntmps20
  go_upto_region 1 with fail
  rw [HW0.out,HN.out]
  go_wp2_with (go_at_call 21;(with_reducible refine (CV.out _ T.out.bl).mono ?_);rintro e w2 ⟨rfl,hb2⟩;replace T:=aI (T.out.below hb2);clear hb2 z0 z1 z2 z3;obtain ⟨z0,z1,z2,z3⟩:=aM4 ((T.out.fact (.head _)).2))
  go_ret
  exact ⟨rfl,HB.out.trans (T.out.bl.mono HB.out.size)⟩
end
section
theorem okB_sz {x:Sch} (h:Sx.okB x=true):Sx.Sz x:=by
 have hb:=Sx.okB_bd h
 refine ⟨fun k hk=>⟨by have:=(hb.k k hk).n;omega,fun f hf=>?_⟩,fun l hl=>?_,fun r hr=>?_⟩
 ·have h1:=Sx.fldB_bd ((hb.k k hk).f f hf)
  have:=h1.ns;have:=h1.ws;omega
 ·have h1:=hb.l l hl
  have:=h1.n;have:=h1.m;omega
 ·have h1:=hb.r r hr
  have:=h1.a;have:=h1.b;omega
theorem lives_any (w:World) (he:SEnv w):Calls Tryz.prog 16 #[] w fun e w'=>e=.returned (.bool true)/\Below w.heap.size w w':=by
 have K1:=aI (fun (W:World) (hb:Below w.heap.size w W)=>show Calls Tryz.prog 13 #[.string ⟨#[115,99,104,101,109,97,32,49,32,107,105,110,100,32,97,32,48,32,57,32,107,101,121,32,105,100,32,53]⟩] W fun e w'=>∃ (A:Option Addr) (c:Nat) (B:Option Addr) (d:Nat) (C:Option Addr) (f:Nat),e=.returned (.tuple #[.agg #[.int .i64 1,.slice A 1 c,.slice B 0 d,.slice C 0 f],.int .i64 0,.int .i64 0])/\Mem.rep [] w' Sx.x1 [.int .i64 1,.slice A 1 c,.slice B 0 d,.slice C 0 f]/\Below W.heap.size W w' from by
  have h:=pparse_any Sx.e1 W (by decide) (he.to hb)
  rw [Sx.e1_parse] at h
  refine h.mono ?_
  rintro e w' ⟨us,h1,h2,h3⟩
  obtain ⟨A,c,B,d,C,f,rfl,_⟩:=rep_sch h2
  exact ⟨A,c,B,d,C,f,h1,h2,h3⟩)
 have K2:=aI (fun (W:World) (hb:Below w.heap.size w W)=>show Calls Tryz.prog 13 #[.string ⟨#[115,99,104,101,109,97,32,49,32,107,105,110,100,32,50]⟩] W fun e w'=>∃ (A:Option Addr) (c:Nat) (B:Option Addr) (d:Nat) (C:Option Addr) (f:Nat),e=.returned (.tuple #[.agg #[.int .i64 0,.slice A 0 c,.slice B 0 d,.slice C 0 f],.int .i64 14,.int .i64 2])/\Mem.rep [] w' Sx.noSch [.int .i64 0,.slice A 0 c,.slice B 0 d,.slice C 0 f]/\Below W.heap.size W w' from by
  have h:=pparse_any Sx.e2 W (by decide) (he.to hb)
  rw [Sx.e2_parse] at h
  refine h.mono ?_
  rintro e w' ⟨us,h1,h2,h3⟩
  obtain ⟨A,c,B,d,C,f,rfl,_⟩:=rep_sch h2
  exact ⟨A,c,B,d,C,f,h1,h2,h3⟩)
 have K3:=aI (fun (W:World) (hb:Below w.heap.size w W)=>show Calls Tryz.prog 13 #[.string ⟨#[115,99,104,101,109,97,32,49,32,107,105,110,100,32,97,32,48]⟩] W fun e w'=>∃ (A:Option Addr) (c:Nat) (B:Option Addr) (d:Nat) (C:Option Addr) (f:Nat),e=.returned (.tuple #[.agg #[.int .i64 0,.slice A 0 c,.slice B 0 d,.slice C 0 f],.int .i64 17,.int .i64 2])/\Mem.rep [] w' Sx.noSch [.int .i64 0,.slice A 0 c,.slice B 0 d,.slice C 0 f]/\Below W.heap.size W w' from by
  have h:=pparse_any Sx.e3 W (by decide) (he.to hb)
  rw [Sx.e3_parse] at h
  refine h.mono ?_
  rintro e w' ⟨us,h1,h2,h3⟩
  obtain ⟨A,c,B,d,C,f,rfl,_⟩:=rep_sch h2
  exact ⟨A,c,B,d,C,f,h1,h2,h3⟩)
 have HSZ:=aI (okB_sz (valid_ok Sx.x1_valid))
 have CV:=aI (fun (W:World) (us:List Value) (hr:Mem.rep [] W Sx.x1 us) (hb:Below w.heap.size w W)=>show Calls Tryz.prog 21 #[.agg us.toArray] W fun e w'=>e=.returned (.int .i64 0)/\Below W.heap.size W w' from by
  have h:=valid_any Sx.x1 us W hr HSZ.out (he.to hb)
  rw [Sx.x1_valid] at h
  exact h)
 have CP:=aI (fun (W:World) (us:List Value) (hr:Mem.rep [] W Sx.x1 us) (hb:Below w.heap.size w W)=>show Calls Tryz.prog 20 #[.agg us.toArray] W fun e w'=>e=.returned (.string ⟨#[115,99,104,101,109,97,32,49,10,107,105,110,100,32,97,32,48,32,57,10,107,101,121,32,105,100,32,53,10]⟩)/\Below W.heap.size W w' from by
  have h:=print_any Sx.x1 us W hr HSZ.out (he.to hb)
  rw [Sx.x1_print] at h
  exact h)
 have T:=aI (held0 w [] (fun _ h=>by cases h))
 clear he
 go_enter Tryz.func16,Tryz.ntmps16
 go_upto_region 2 with (go_at_call 13;(with_reducible refine (K1.out _ T.out.bl).mono ?_);rintro e w1 ⟨A,c,B,d,C,e,rfl,hr,hb⟩;replace T:=aI ((T.out.below hb).add (keeps_rep Sx.x1 _) hr);clear hb hr)
 obtain ⟨N,hN⟩:=aX w1.heap.size
 replace T:=aI (T.out.made #[.int .i64 1,.slice A 1 c,.slice B 0 d,.slice C 0 e] 28 hN)
 rw [hN]
 clear hN
 generalize w1.alloc (.cells #[.int .i64 1,.slice A 1 c,.slice B 0 d,.slice C 0 e] 28)=w2 at *
 go_upto_region 3 with (go_at_call 13;go_loud ((with_reducible refine (K2.out _ T.out.bl).mono ?_);rintro e w3 ⟨A2,c2,B2,d2,C2,e2,rfl,hr,hb⟩;replace T:=aI ((T.out.below hb).below ((Below.refl _ _).alloc (ag _) (.cells #[.int .i64 0,.slice A2 0 c2,.slice B2 0 d2,.slice C2 0 e2] 28)));clear hb hr))
 generalize hw4:w3.alloc (.cells #[.int .i64 0,.slice A2 0 c2,.slice B2 0 d2,.slice C2 0 e2] 28)=w4 at *
 clear hw4
 go_upto_region 4 with (go_at_call 13;(with_reducible refine (K3.out _ T.out.bl).mono ?_);rintro e w5 ⟨A3,c3,B3,d3,C3,e3,rfl,hr,hb⟩;replace T:=aI ((T.out.below hb).below ((Below.refl _ _).alloc (ag _) (.cells #[.int .i64 0,.slice A3 0 c3,.slice B3 0 d3,.slice C3 0 e3] 28)));clear hb hr)
 generalize hw6:w5.alloc (.cells #[.int .i64 0,.slice A3 0 c3,.slice B3 0 d3,.slice C3 0 e3] 28)=w6 at *
 clear hw6
 have CV6:=aI (show Calls Tryz.prog 21 #[.agg #[.int .i64 1,.slice A 1 c,.slice B 0 d,.slice C 0 e]] w6 fun e w'=>e=.returned (.int .i64 0)/\Below w6.heap.size w6 w' from CV.out _ _ (T.out.fact (.tail _ (.head _))) T.out.bl)
 have hbk:=(T.out.fact (.head _)).2;obtain ⟨z0,z1,z2,z3⟩:=aN4 hbk.cell
 simp at z0 z1 z2 z3
 clear hbk
 go_upto_region 6 with (go_at_call 21;(with_reducible refine (CV6.out).mono ?_);rintro e w7 ⟨rfl,hb⟩;replace T:=aI (T.out.below hb);clear hb z0 z1 z2 z3;obtain ⟨z0,z1,z2,z3⟩:=aM4 ((T.out.fact (.head _)).2))
 have CP7:=aI (show Calls Tryz.prog 20 #[.agg #[.int .i64 1,.slice A 1 c,.slice B 0 d,.slice C 0 e]] w7 fun e w'=>e=.returned (.string ⟨#[115,99,104,101,109,97,32,49,10,107,105,110,100,32,97,32,48,32,57,10,107,101,121,32,105,100,32,53,10]⟩)/\Below w7.heap.size w7 w' from CP.out _ _ (T.out.fact (.tail _ (.head _))) T.out.bl)
 obtain ⟨A9,c9,B9,d9,C9,e9,hus,hs1,_⟩:=rep_sch (T.out.fact (.tail _ (.head _)))
 have hA:A9=A:=by
  injection hus with _ hus
  injection hus with hA _
  injection hA with hA _ _
  exact hA.symm
 clear hus
 subst hA
 obtain ⟨b,o,F,cf,rfl,_,k0,k1,k2,k3,hf,_⟩:=knd_at hs1 0 (Nat.zero_lt_succ 0)
 obtain ⟨b2,o2,F2,cf2,C2,dd2,rfl,_,f0,f1,f2,f3,f4,_⟩:=fld_at hf 0 (Nat.zero_lt_succ 0)
 replace k2:w7.cell? ⟨b,o+2,none⟩=some (.int .i64 9):=k2
 replace k3:w7.cell? ⟨b,o+3,none⟩=some (.slice (some ⟨b2,o2,none⟩) 1 cf):=k3
 replace f0:w7.cell? ⟨b2,o2,none⟩=some (.string ⟨#[105,100]⟩):=f0
 replace f4:w7.cell? ⟨b2,o2+4,none⟩=some (.int .i64 5):=f4
 clear k0 k1 f1 f2 f3 hf hs1
 go_wp2_with (go_at_call 20;(with_reducible refine (CP7.out).mono ?_);rintro e w8 ⟨rfl,hb⟩;replace T:=aI (T.out.below hb);clear hb)
 go_ret
 exact ⟨rfl,T.out.bl⟩
theorem sDecN_any (u:Nat) (w:World) (h:u < 10000000000):Calls Tryz.prog 68 #[.int .i64 (u:Int)] w fun e w'=>e=.returned (.string ⟨(Lib.decDigits u).toArray⟩)/\Below w.heap.size w w':=by
 induction u using Nat.strongRecOn generalizing w with
 | _ u ih =>
  by_cases h10:u < 10
  ·have b1:decide ((u:Int) < 10)=true:=by simp;omega
   have b0:decide ((u:Int) < 0)=false:=ad (by omega)
   obtain ⟨b,hb⟩:=aX (UInt8.ofNat (48+u))
   have hd:=aI (show Lib.decDigits u=[b] by rw [Lib.decDigits,dif_pos h10,hb])
   have hown:=own_lit (w:=w) (base:=w.heap.size) (e:=5) (.int .u8 (48+(u:Int))) (ag _)
   have hcv:=run_str_own (P:=Tryz.prog) (w.alloc (.cells #[.int .u8 (48+(u:Int))] 5)) 73 9 5 Tryz.underlying73 Tryz.underlying5 Tryz.underlying9 (l:=[b]) (by
    have e:byteVals [b]=[.int .u8 (48+(u:Int))]:=by
     have:=digit_byte u
     rw [Nat.mod_eq_of_lt h10,hb] at this
     simp only [byteVals,List.map_cons,List.map_nil]
     rw [this];congr 2;omega
    rw [e];exact hown)
   clear ih hown hb
   go_enter Tryz.func68,Tryz.ntmps68
   go_wp2
   go_ret
   exact ⟨by rw [hd.out];rfl,(Below.refl _ _).alloc (ag _) _⟩
  ·have b1:decide ((u:Int) < 10)=false:=by simp;omega
   have b0:decide ((u:Int) < 0)=false:=ad (by omega)
   obtain ⟨q,hq⟩:=aX (u / 10)
   obtain ⟨b,hb⟩:=aX (UInt8.ofNat (48+u % 10))
   have hd:=aI (show Lib.decDigits u=Lib.decDigits q++[b] by rw [Lib.decDigits,dif_neg h10,hb,hq])
   obtain ⟨C,hC⟩:=aX (48+(u:Int) % 10)
   have hCb:(b.toNat:Int)=C:=by have:=digit_byte u;rw [hb] at this;omega
   have wC:IntKind.u8.wrap C=C:=by
    have:0<=C/\C<=255:=by omega
    simp only [IntKind.wrap,IntKind.signed,IntKind.bits];simp;omega
   have wC2:IntKind.i64.wrap C=C:=wrapI (by unfold inI;omega)
   have hq1:(u:Int).tdiv 10=(q:Int):=by rw [Int.tdiv_eq_ediv_of_nonneg (by omega)];omega
   have hq2:(u:Int) / 10=(q:Int):=by omega
   have hq3:(u:Int).tmod 10=(u:Int) % 10:=Int.tmod_eq_emod_of_nonneg (by omega)
   have wq:IntKind.i64.wrap (q:Int)=q:=wrapI (by unfold inI;omega)
   have cr:=fun w=>ih q (by omega) w (by omega)
   obtain ⟨t,ht⟩:∃ t:ByteArray,(⟨(Lib.decDigits q).toArray⟩:ByteArray)=t:=⟨_,rfl⟩
   rw [ht] at cr
   have CR:=aI cr
   have HT:=aI ht
   have hts:t.size<=10:=by rw [<-ht];exact Dc.decDigits_len q (by omega)
   have hts2:t.size+1 < 9223372036854775808:=by omega
   clear cr ih hb hq h ht
   go_enter Tryz.func68,Tryz.ntmps68
   go_wp2
   apply wp_region_typed (C:=fun w'=>Below w.heap.size w w') (n:=26) (m:=11) (l1:=[_,_,_,_,_,_,_,_,_,_,_]) (l2:=[])
   ·rfl
   ·rfl
   ·kernel_rfl
   ·rfl
   ·kernel_rfl
   ·exact ⟨rfl,rfl,rfl,ag _,fun _ _=>rfl⟩
   ·exact fun u u' h hb=>h.trans (hb.mono h.size)
   iterate 2 ((apply wpT_exact;· (intro w' hC hf;unfold Gives;clear hf hC;go_wp2_with (fail);apply postT_val rfl (Below.refl _ _);simp only [valAt,aV];exact rfl));(try simp only [Act.put,aZ]))
   (apply wpT_exact;· (intro w' hC hf;unfold Gives;clear hf hC;go_wp2_with (first | (go_at_call 68;(with_reducible refine (CR.out _).mono ?_);rintro e w2 ⟨rfl,hb2⟩));apply postT_val rfl (by first | exact Below.refl _ _ | assumption);simp only [valAt,aV];exact rfl));(try simp only [Act.put,aZ])
   iterate 4 ((apply wpT_exact;· (intro w' hC hf;unfold Gives;clear hf hC;go_wp2_with (fail);apply postT_val rfl (Below.refl _ _);simp only [valAt,aV];exact rfl));(try simp only [Act.put,aZ]))
   apply wpT_typed (slB_kept b)
   ·intro w' hC hf;unfold Gives;clear hf hC;go_wp2;apply postT_mk rfl (by go_grown);simp only [valAt,aV]
    have:=own_lit (w:=w') (base:=0) (e:=5) (.int .u8 C) (Nat.zero_le _)
    unfold SlB
    simp only [byteVals,List.map_cons,List.map_nil,hCb]
    exact this
   intro v7;(try simp only [Act.put,aZ])
   apply wpT_exact
   ·intro w' hC hf;unfold Gives
    have hcv:=run_str_own (P:=Tryz.prog) w' 73 9 5 Tryz.underlying73 Tryz.underlying5 Tryz.underlying9 (hf.1 rfl)
    clear hf hC;go_wp2_with fail;apply postT_val rfl (Below.refl _ _);simp only [valAt,aV];exact rfl
   (try simp only [Act.put,aZ])
   iterate 2 ((apply wpT_exact;· (intro w' hC hf;unfold Gives;clear hf hC;go_wp2_with (fail);apply postT_val rfl (Below.refl _ _);simp only [valAt,aV];exact rfl));(try simp only [Act.put,aZ]))
   apply wpT_done
   intro w3 hC _
   go_wp2
   go_ret
   refine ⟨?_,hC⟩
   show Ending.returned (.string (t++(⟨#[b]⟩:ByteArray)))=_
   have e:t++(⟨#[b]⟩:ByteArray)=⟨(Lib.decDigits q++[b]).toArray⟩:=by
    apply ByteArray.ext
    rw [ByteArray.data_append,<-HT.out]
    simp
   rw [hd.out,e]
theorem sDecimal_any (n:Int) (w:World) (h:n.natAbs < 10000000000):Calls Tryz.prog 68 #[.int .i64 n] w fun e w'=>e=.returned (.string ⟨(Lib.itoa n).toArray⟩)/\Below w.heap.size w w':=by
 by_cases h0:n < 0
 ·obtain ⟨u,hu⟩:∃ u:Nat,n=-(u:Int):=⟨n.natAbs,by omega⟩
  subst hu
  have hu0:0 < u:=by omega
  have d0:decide (-(u:Int) < 0)=true:=decide_eq_true (by omega)
  have CR:=aI (fun w=>sDecN_any u w (by omega))
  have HV:=aI (itoa_neg u hu0)
  have hlen:=Dc.decDigits_len u (by omega)
  obtain ⟨t,ht⟩:∃ t:ByteArray,(⟨(Lib.decDigits u).toArray⟩:ByteArray)=t:=⟨_,rfl⟩
  rw [ht] at CR
  have HT:=aI ht
  have hts:t.size<=10:=by rw [<-ht];exact hlen
  have hneg:IntKind.i64.wrap (- -(u:Int))=(u:Int):=by rw [Int.neg_neg];exact wrapI (by unfold inI;omega)
  clear ht hlen
  go_enter Tryz.func68,Tryz.ntmps68
  go_wp2_with (go_at_call 68;(with_reducible refine (CR.out _).mono ?_);rintro e w2 ⟨rfl,hb2⟩;have HB:=aI hb2;clear hb2)
  go_ret
  refine ⟨?_,HB.out⟩
  rw [HV.out,<-HT.out]
  rfl
 ·obtain ⟨u,rfl⟩:=Int.eq_ofNat_of_zero_le (show 0<=n by omega)
  rw [itoa_nat]
  exact sDecN_any u w (by omega)
def andS (s:ByteArray) (n:Int):ByteArray:=s++⟨#[32]⟩++Sx.ofT (Sx.num n)
theorem andS_list (s:ByteArray) (n:Int):(andS s n).data.toList=s.data.toList++32::Sx.num n:=by unfold andS Sx.ofT;simp
theorem andS_size (s:ByteArray) (n:Int) (h:-1000000000<=n/\n<=1000000000):(andS s n).size<=s.size+13:=by
 have h1:=strLen (andS s n)
 rw [andS_list,aK,List.length_cons,strLen] at h1
 have:=Sx.num_len h
 omega
theorem and_any (s:ByteArray) (n:Int) (w:World) (hs:s.size<=100000000) (hn:-1000000000<=n/\n<=1000000000):Calls Tryz.prog 23 #[.string s,.int .i64 n] w fun e w'=>e=.returned (.string (andS s n))/\Below w.heap.size w w':=by
 have CD:=aI (fun w=>sDecimal_any n w (by omega))
 have hl:=Sx.num_len hn
 unfold andS
 obtain ⟨d,hd⟩:∃ d:ByteArray,Sx.ofT (Sx.num n)=d:=⟨_,rfl⟩
 have hds:d.size<=12:=by rw [<-hd];unfold Sx.ofT;simpa [ByteArray.size] using hl
 rw [show (⟨(Lib.itoa n).toArray⟩:ByteArray)=d from hd] at CD
 rw [hd]
 clear hd hl hn
 go_enter Tryz.func23,Tryz.ntmps23
 go_wp2_with (go_at_call 68;(with_reducible refine (CD.out _).mono ?_);rintro e w1 ⟨rfl,hb1⟩;have HB:=aI hb1;clear hb1)
 go_ret
 exact ⟨rfl,HB.out⟩
theorem rnamed_any (s:ByteArray) (w:World):Calls Tryz.prog 25 #[.string s] w fun e w'=>e=.returned (.string (Sx.orN s))/\w=w':=by
 unfold Sx.orN
 obtain ⟨e1,e2,e3⟩:=em_spell s
 obtain ⟨r,hr⟩:=aX (Sx.em s)
 rw [hr] at e1 e2 e3 ⊢
 clear hr
 cases r
 ·rw [if_neg (by simp)]
  go_enter Tryz.func25,Tryz.ntmps25
  go_wp2_with fail
  go_ret
  exact ⟨rfl,rfl⟩
 ·rw [if_pos rfl]
  go_enter Tryz.func25,Tryz.ntmps25
  go_wp2_with fail
  go_ret
  exact ⟨rfl,rfl⟩
def usesK (k:Int):Bool × Bool × Bool × Bool × Bool :=
 if k=0 then (false,false,true,false,false) else if k=1 then (true,false,true,true,false) else if k=2 then (false,false,true,true,false) else if k=3 then (false,false,false,false,true)
 else if k=4 then (true,false,true,true,false) else if k=5 then (true,false,true,true,false) else if k=6 then (true,false,false,false,false) else if k=7 then (true,true,true,true,false)
 else if k=8 then (true,true,false,false,false) else (false,false,false,false,false)
theorem uses_any (k:Int) (w:World):Calls Tryz.prog 69 #[.int .i64 k] w fun e w'=>e=.returned (.tuple #[.bool (usesK k).1,.bool (usesK k).2.1,.bool (usesK k).2.2.1,.bool (usesK k).2.2.2.1,.bool (usesK k).2.2.2.2])/\w=w':=by
 by_cases h:k=0∨k=1∨k=2∨k=3∨k=4∨k=5∨k=6∨k=7∨k=8
 ·rcases h with rfl | rfl | rfl | rfl | rfl | rfl | rfl | rfl | rfl <;> (go_enter Tryz.func69,Tryz.ntmps69;go_wp2_with fail;go_returns;exact ⟨rfl,rfl⟩)
 ·have hu:usesK k=(false,false,false,false,false):=by
   unfold usesK
   rw [if_neg (by omega),if_neg (by omega),if_neg (by omega),if_neg (by omega),if_neg (by omega),if_neg (by omega),if_neg (by omega),if_neg (by omega),if_neg (by omega)]
  rw [hu]
  have h0:(k == 0)=false:=beq_eq_false_iff_ne.2 (by omega)
  have h1:(k == 1)=false:=beq_eq_false_iff_ne.2 (by omega)
  have h2:(k == 2)=false:=beq_eq_false_iff_ne.2 (by omega)
  have h3:(k == 3)=false:=beq_eq_false_iff_ne.2 (by omega)
  have h4:(k == 4)=false:=beq_eq_false_iff_ne.2 (by omega)
  have h5:(k == 5)=false:=beq_eq_false_iff_ne.2 (by omega)
  have h6:(k == 6)=false:=beq_eq_false_iff_ne.2 (by omega)
  have h7:(k == 7)=false:=beq_eq_false_iff_ne.2 (by omega)
  have h8:(k == 8)=false:=beq_eq_false_iff_ne.2 (by omega)
  clear h hu
  go_enter Tryz.func69,Tryz.ntmps69
  go_wp2_with fail
  go_returns
  exact ⟨rfl,rfl⟩
def wdR (k:Nat):ByteArray:=Sx.ofT (Sx.wordsL.getD k [])
def WRD:Array Value:=#[.string (wdR 0),.string (wdR 1),.string (wdR 2),.string (wdR 3),.string (wdR 4),.string (wdR 5),.string (wdR 6),.string (wdR 7),.string (wdR 8)]
theorem wrd_get (k:Nat) (h:k < 9):WRD[k]?=some (.string (wdR k)):=by
 rcases (show k=0∨k=1∨k=2∨k=3∨k=4∨k=5∨k=6∨k=7∨k=8 by omega) with rfl | rfl | rfl | rfl | rfl | rfl | rfl | rfl | rfl <;> rfl
theorem rwords_any (w:World):Calls Tryz.prog 70 #[] w fun e w'=>∃ g,e=.returned (.slice (some ⟨g,0,none⟩) 9 9)/\w.heap.size<=g/\Blk w' g 9 WRD/\Below w.heap.size w w':=by
 go_enter Tryz.func70,Tryz.ntmps70
 go_wp2_with fail
 go_ret
 exact ⟨_,rfl,ag _,Blk.new _ _ _,(Below.refl _ _).alloc (ag _) _⟩
namespace Sx
def lnJ:List Txt->Txt
 | []=>[]
 | t::l=>t++l.flatMap fun u=>32::u
theorem lnJ_end {l:List Txt} (h:l≠[]):lineT l=lnJ l++[10]:=by
 cases l with
 | nil=>exact absurd rfl h
 | cons t l=>exact lineT_cons t l
theorem nm_orN {s:ByteArray} (h:nm s=true):orN s=s:=by
 unfold orN
 rw [if_neg (fun e=>by have h1:=nm_sz h;have h2:=em_sz e;omega)]
end Sx
theorem wdR_list (k:Nat):(wdR k).data.toList=Sx.wordsL.getD k []:=by simp [wdR,Sx.ofT]
theorem wdR_size (k:Nat):(wdR k).size<=12:=by rw [<-strLen,wdR_list];exact Sx.words_len k
def RLineP (l:List Sx.Txt) (w:World) (e:Ending) (w':World):Prop:=∃ t:ByteArray,e=.returned (.string t)/\t.data.toList=10::Sx.lnJ l/\Below w.heap.size w w'
theorem rline_0 (nm of_ up:ByteArray) (lo hi:Int) (ws:List ByteArray) (ns:List Int) (us:List Value) (w:World) (h:Mem.rep [] w ((nm,of_,up,0,lo,hi,ws,ns):Fld) us) (hok:Sx.fldB ((nm,of_,up,0,lo,hi,ws,ns):Fld)=true):Calls Tryz.prog 24 #[.agg us.toArray] w (RLineP (Sx.fldT ((nm,of_,up,0,lo,hi,ws,ns):Fld)) w):=by
 have hf:=Sx.fldB_bd hok
 obtain ⟨A,c,B,d,rfl,s1,s2,a4,a5,a6,a1,a2,a3,b1,b2,e1,e2⟩:=rep_f8 h
 obtain ⟨h1,h2,h3,h4,h5,h6,h7,h8,h9,_⟩:=hf
 replace h1:nm.size<=12:=h1
 replace h2:of_.size<=12:=h2
 replace h3:up.size<=12:=h3
 replace h4:-1048576<=lo/\lo<=1048576:=h4
 replace h5:-1048576<=hi/\hi<=1048576:=h5
 replace h6:ws.length<=12:=h6
 replace h7:ns.length=ws.length:=h7
 replace h8:∀ s∈ws,s.size<=12:=h8
 replace h9:∀ n∈ns,0<=n/\n<=1048576:=h9
 show Calls Tryz.prog 24 #[.agg #[.string nm,.string of_,.string up,.int .i64 0,.int .i64 lo,.int .i64 hi,.slice A ws.length c,.slice B ns.length d]] w _
 obtain ⟨nw,hnw⟩:=aX ws.length
 have HNW:=aI hnw
 have HNN:=aI (h7.trans hnw)
 have HWF:=aI h8
 have HNF:=aI h9
 rw [h7,hnw]
 rw [hnw] at h6
 obtain ⟨W1,hW1⟩:=aX (w.alloc (.cells #[.string nm,.string of_,.string up,.int .i64 0,.int .i64 lo,.int .i64 hi,.slice A nw c,.slice B nw d] 52))
 have hb0:Below w.heap.size w W1:=by rw [<-hW1];exact aP _ _
 have HB:=aI hb0
 have hbk:Blk W1 w.heap.size 52 #[.string nm,.string of_,.string up,.int .i64 0,.int .i64 lo,.int .i64 hi,.slice A nw c,.slice B nw d]:=by rw [<-hW1];exact Blk.new w _ _
 have HBK:=aI hbk
 have HS1:=aI (s1.keep (Chg.of_below hb0))
 have HS2:=aI (s2.keep (Chg.of_below hb0))
 have HW1:=aI hW1
 have CU:=aI (fun w=>show Calls Tryz.prog 69 #[.int .i64 0] w fun e w'=>e=.returned (.tuple #[.bool false,.bool false,.bool true,.bool false,.bool false])/\w=w' from uses_any 0 w)
 have CW:=aI rwords_any
 obtain ⟨wd,hwd⟩:=aX (wdR 0)
 have hwl:wd.size<=12:=by rw [<-hwd];exact wdR_size 0
 have HWL:=aI (show wd.data.toList=Sx.wordsL.getD 0 [] by rw [<-hwd];exact wdR_list 0)
 have HWG:=aI (show WRD[0]?=some (.string wd) by rw [<-hwd];exact wrd_get 0 (by decide))
 obtain ⟨Nf,hNf⟩:=aX w.heap.size
 have HNf:=aI hNf
 rw [hNf] at HBK
 have HC:=aI (Below.refl W1.heap.size W1)
 obtain ⟨c0,c1,c2,c3,c4,c5,c6,c7⟩:=aM8 (HBK.out.below HC.out HBK.out.lt)
 clear h7 h8 h9 hnw h s1 s2 a1 a2 a3 a4 a5 a6 b1 b2 e1 e2 hbk hW1 hb0 hwd hok hNf
 go_enter Tryz.func24,Tryz.ntmps24
 go_upto_region 1 with fail
 rw [HW1.out,HNf.out]
 go_wp2_with (go_at_call 69;(with_reducible refine aS (CU.out _) ?_))
 clear c0 c1 c2 c3 c4 c5 c6 c7
 apply wp_region_typed (C:=fun w'=>Below W1.heap.size W1 w') (n:=80) (m:=11) (l1:=[_,_,_,_,_,_,_,_,_,_,_]) (l2:=[])
 ·rfl
 ·rfl
 ·kernel_rfl
 ·rfl
 ·kernel_rfl
 ·exact ⟨rfl,rfl,rfl,ag _,fun _ _=>rfl⟩
 ·exact fun u u' h hb=>(by first | exact h.below hb | exact h.trans (hb.mono h.size))
 apply wpT_typed (slBlk_kept 9 9 WRD)
 ·intro w' hC hf;unfold Gives;clear hf hC
  go_wp2_with (go_at_call 70;(with_reducible refine (CW.out _).mono ?_);rintro e w2 ⟨g,rfl,hg,hB,hb2⟩)
  apply postT_mk rfl hb2;simp only [valAt,aV];exact ⟨g,rfl,hB⟩
 intro v28;(try simp only [Act.put,aZ])
 iterate 2 ((apply wpT_exact;· (intro w' hC hf;unfold Gives;obtain ⟨c0,c1,c2,c3,c4,c5,c6,c7⟩:=aM8 (HBK.out.below hC HBK.out.lt);clear hf hC;go_wp2_with (fail);apply postT_val rfl (Below.refl _ _);simp only [valAt,aV];exact rfl));(try simp only [Act.put,aZ]))
 apply wpT_typed (atCell_kept (.string wd))
 ·intro w' hC hf;unfold Gives
  obtain ⟨g,rfl,hB⟩:=hf.1 rfl
  have hcell:=(hB.cell 0).trans HWG.out
  have HCE:=aI hcell
  clear hf hC hcell hB
  go_wp2_with fail
  apply postT_mk rfl (Below.refl _ _);simp only [valAt,aV];exact atCell_of HCE.out
 intro v34;(try simp only [Act.put,aZ])
 apply wpT_exact
 ·intro w' hC hf;unfold Gives
  obtain ⟨a,rfl,hc⟩:=hf.1 rfl
  clear hf hC
  go_wp2_with fail
  apply postT_val rfl (Below.refl _ _);simp only [valAt,aV];exact rfl
 (try simp only [Act.put,aZ])
 iterate 6 ((apply wpT_exact;· (intro w' hC hf;unfold Gives;obtain ⟨c0,c1,c2,c3,c4,c5,c6,c7⟩:=aM8 (HBK.out.below hC HBK.out.lt);clear hf hC;go_wp2_with (fail);apply postT_val rfl (Below.refl _ _);simp only [valAt,aV];exact rfl));(try simp only [Act.put,aZ]))
 apply wpT_done
 intro w3 hC _
 replace HC:=aI hC
 clear hC
 obtain ⟨o0,ho0⟩:∃ o:ByteArray,(⟨#[10]⟩++wd++⟨#[32]⟩++nm:ByteArray)=o:=⟨_,rfl⟩
 rw [ho0]
 have ho0s:o0.size<=26:=by rw [<-ho0];simp only [ByteArray.size_append];rw [show (⟨#[10]⟩:ByteArray).size=1 from rfl,show (⟨#[32]⟩:ByteArray).size=1 from rfl];omega
 have HO0:=aI (show o0.data.toList=10::(Sx.wordsL.getD 0 []++32::Sx.bs nm) by rw [<-ho0,<-HWL.out];unfold Sx.bs;simp)
 clear ho0
 obtain ⟨c0,c1,c2,c3,c4,c5,c6,c7⟩:=aM8 (HBK.out.below HC.out HBK.out.lt)
 have CA1:=aI (fun w=>and_any o0 lo w (by omega) (by omega))
 go_wp2_with (first | (go_at_call 25;(with_reducible refine aS (CN.out _) ?_)) | (go_at_call 23;(with_reducible refine (CA1.out _).mono ?_);rintro e w5 ⟨rfl,hb5⟩;replace HC:=aT HC hb5;clear hb5;clear c0 c1 c2 c3 c4 c5 c6 c7;obtain ⟨c0,c1,c2,c3,c4,c5,c6,c7⟩:=aM8 (HBK.out.below HC.out HBK.out.lt)))
 go_ret
 refine ⟨_,rfl,?_,HB.out.trans (HC.out.mono HB.out.size)⟩
 show (((andS o0 lo)):ByteArray).data.toList=10::Sx.lnJ (Sx.fldT ((nm,of_,up,0,lo,hi,ws,ns):Fld))
 rw [andS_list]
 have hx:=HO0.out
 show _=10::(Sx.wordsL.getD 0 []++(Sx.bs nm::[Sx.num lo]).flatMap fun u=>32::u)
 simp [hx,Sx.bs]
theorem rline_2 (nm of_ up:ByteArray) (lo hi:Int) (ws:List ByteArray) (ns:List Int) (us:List Value) (w:World) (h:Mem.rep [] w ((nm,of_,up,2,lo,hi,ws,ns):Fld) us) (hok:Sx.fldB ((nm,of_,up,2,lo,hi,ws,ns):Fld)=true):Calls Tryz.prog 24 #[.agg us.toArray] w (RLineP (Sx.fldT ((nm,of_,up,2,lo,hi,ws,ns):Fld)) w):=by
 have hf:=Sx.fldB_bd hok
 obtain ⟨A,c,B,d,rfl,s1,s2,a4,a5,a6,a1,a2,a3,b1,b2,e1,e2⟩:=rep_f8 h
 obtain ⟨h1,h2,h3,h4,h5,h6,h7,h8,h9,_⟩:=hf
 replace h1:nm.size<=12:=h1
 replace h2:of_.size<=12:=h2
 replace h3:up.size<=12:=h3
 replace h4:-1048576<=lo/\lo<=1048576:=h4
 replace h5:-1048576<=hi/\hi<=1048576:=h5
 replace h6:ws.length<=12:=h6
 replace h7:ns.length=ws.length:=h7
 replace h8:∀ s∈ws,s.size<=12:=h8
 replace h9:∀ n∈ns,0<=n/\n<=1048576:=h9
 show Calls Tryz.prog 24 #[.agg #[.string nm,.string of_,.string up,.int .i64 2,.int .i64 lo,.int .i64 hi,.slice A ws.length c,.slice B ns.length d]] w _
 obtain ⟨nw,hnw⟩:=aX ws.length
 have HNW:=aI hnw
 have HNN:=aI (h7.trans hnw)
 have HWF:=aI h8
 have HNF:=aI h9
 rw [h7,hnw]
 rw [hnw] at h6
 obtain ⟨W1,hW1⟩:=aX (w.alloc (.cells #[.string nm,.string of_,.string up,.int .i64 2,.int .i64 lo,.int .i64 hi,.slice A nw c,.slice B nw d] 52))
 have hb0:Below w.heap.size w W1:=by rw [<-hW1];exact aP _ _
 have HB:=aI hb0
 have hbk:Blk W1 w.heap.size 52 #[.string nm,.string of_,.string up,.int .i64 2,.int .i64 lo,.int .i64 hi,.slice A nw c,.slice B nw d]:=by rw [<-hW1];exact Blk.new w _ _
 have HBK:=aI hbk
 have HS1:=aI (s1.keep (Chg.of_below hb0))
 have HS2:=aI (s2.keep (Chg.of_below hb0))
 have HW1:=aI hW1
 have CU:=aI (fun w=>show Calls Tryz.prog 69 #[.int .i64 2] w fun e w'=>e=.returned (.tuple #[.bool false,.bool false,.bool true,.bool true,.bool false])/\w=w' from uses_any 2 w)
 have CW:=aI rwords_any
 obtain ⟨wd,hwd⟩:=aX (wdR 2)
 have hwl:wd.size<=12:=by rw [<-hwd];exact wdR_size 2
 have HWL:=aI (show wd.data.toList=Sx.wordsL.getD 2 [] by rw [<-hwd];exact wdR_list 2)
 have HWG:=aI (show WRD[2]?=some (.string wd) by rw [<-hwd];exact wrd_get 2 (by decide))
 obtain ⟨Nf,hNf⟩:=aX w.heap.size
 have HNf:=aI hNf
 rw [hNf] at HBK
 have HC:=aI (Below.refl W1.heap.size W1)
 obtain ⟨c0,c1,c2,c3,c4,c5,c6,c7⟩:=aM8 (HBK.out.below HC.out HBK.out.lt)
 clear h7 h8 h9 hnw h s1 s2 a1 a2 a3 a4 a5 a6 b1 b2 e1 e2 hbk hW1 hb0 hwd hok hNf
 go_enter Tryz.func24,Tryz.ntmps24
 go_upto_region 1 with fail
 rw [HW1.out,HNf.out]
 go_wp2_with (go_at_call 69;(with_reducible refine aS (CU.out _) ?_))
 clear c0 c1 c2 c3 c4 c5 c6 c7
 apply wp_region_typed (C:=fun w'=>Below W1.heap.size W1 w') (n:=80) (m:=11) (l1:=[_,_,_,_,_,_,_,_,_,_,_]) (l2:=[])
 ·rfl
 ·rfl
 ·kernel_rfl
 ·rfl
 ·kernel_rfl
 ·exact ⟨rfl,rfl,rfl,ag _,fun _ _=>rfl⟩
 ·exact fun u u' h hb=>(by first | exact h.below hb | exact h.trans (hb.mono h.size))
 apply wpT_typed (slBlk_kept 9 9 WRD)
 ·intro w' hC hf;unfold Gives;clear hf hC
  go_wp2_with (go_at_call 70;(with_reducible refine (CW.out _).mono ?_);rintro e w2 ⟨g,rfl,hg,hB,hb2⟩)
  apply postT_mk rfl hb2;simp only [valAt,aV];exact ⟨g,rfl,hB⟩
 intro v28;(try simp only [Act.put,aZ])
 iterate 2 ((apply wpT_exact;· (intro w' hC hf;unfold Gives;obtain ⟨c0,c1,c2,c3,c4,c5,c6,c7⟩:=aM8 (HBK.out.below hC HBK.out.lt);clear hf hC;go_wp2_with (fail);apply postT_val rfl (Below.refl _ _);simp only [valAt,aV];exact rfl));(try simp only [Act.put,aZ]))
 apply wpT_typed (atCell_kept (.string wd))
 ·intro w' hC hf;unfold Gives
  obtain ⟨g,rfl,hB⟩:=hf.1 rfl
  have hcell:=(hB.cell 2).trans HWG.out
  have HCE:=aI hcell
  clear hf hC hcell hB
  go_wp2_with fail
  apply postT_mk rfl (Below.refl _ _);simp only [valAt,aV];exact atCell_of HCE.out
 intro v34;(try simp only [Act.put,aZ])
 apply wpT_exact
 ·intro w' hC hf;unfold Gives
  obtain ⟨a,rfl,hc⟩:=hf.1 rfl
  clear hf hC
  go_wp2_with fail
  apply postT_val rfl (Below.refl _ _);simp only [valAt,aV];exact rfl
 (try simp only [Act.put,aZ])
 iterate 6 ((apply wpT_exact;· (intro w' hC hf;unfold Gives;obtain ⟨c0,c1,c2,c3,c4,c5,c6,c7⟩:=aM8 (HBK.out.below hC HBK.out.lt);clear hf hC;go_wp2_with (fail);apply postT_val rfl (Below.refl _ _);simp only [valAt,aV];exact rfl));(try simp only [Act.put,aZ]))
 apply wpT_done
 intro w3 hC _
 replace HC:=aI hC
 clear hC
 obtain ⟨o0,ho0⟩:∃ o:ByteArray,(⟨#[10]⟩++wd++⟨#[32]⟩++nm:ByteArray)=o:=⟨_,rfl⟩
 rw [ho0]
 have ho0s:o0.size<=26:=by rw [<-ho0];simp only [ByteArray.size_append];rw [show (⟨#[10]⟩:ByteArray).size=1 from rfl,show (⟨#[32]⟩:ByteArray).size=1 from rfl];omega
 have HO0:=aI (show o0.data.toList=10::(Sx.wordsL.getD 2 []++32::Sx.bs nm) by rw [<-ho0,<-HWL.out];unfold Sx.bs;simp)
 clear ho0
 obtain ⟨c0,c1,c2,c3,c4,c5,c6,c7⟩:=aM8 (HBK.out.below HC.out HBK.out.lt)
 have CA1:=aI (fun w=>and_any o0 lo w (by omega) (by omega))
 have CA2:=aI (fun w=>and_any (andS o0 lo) hi w (by have:=andS_size o0 lo (by omega);omega) (by omega))
 go_wp2_with (first | (go_at_call 25;(with_reducible refine aS (CN.out _) ?_)) | (go_at_call 23;(with_reducible refine (CA1.out _).mono ?_);rintro e w5 ⟨rfl,hb5⟩;replace HC:=aT HC hb5;clear hb5;clear c0 c1 c2 c3 c4 c5 c6 c7;obtain ⟨c0,c1,c2,c3,c4,c5,c6,c7⟩:=aM8 (HBK.out.below HC.out HBK.out.lt)) | (go_at_call 23;(with_reducible refine (CA2.out _).mono ?_);rintro e w5 ⟨rfl,hb5⟩;replace HC:=aT HC hb5;clear hb5;clear c0 c1 c2 c3 c4 c5 c6 c7;obtain ⟨c0,c1,c2,c3,c4,c5,c6,c7⟩:=aM8 (HBK.out.below HC.out HBK.out.lt)))
 go_ret
 refine ⟨_,rfl,?_,HB.out.trans (HC.out.mono HB.out.size)⟩
 show (((andS (andS o0 lo) hi)):ByteArray).data.toList=10::Sx.lnJ (Sx.fldT ((nm,of_,up,2,lo,hi,ws,ns):Fld))
 rw [andS_list,andS_list]
 have hx:=HO0.out
 show _=10::(Sx.wordsL.getD 2 []++(Sx.bs nm::[Sx.num lo,Sx.num hi]).flatMap fun u=>32::u)
 simp [hx,Sx.bs]
theorem rline_6 (nm of_ up:ByteArray) (lo hi:Int) (ws:List ByteArray) (ns:List Int) (us:List Value) (w:World) (h:Mem.rep [] w ((nm,of_,up,6,lo,hi,ws,ns):Fld) us) (hok:Sx.fldB ((nm,of_,up,6,lo,hi,ws,ns):Fld)=true):Calls Tryz.prog 24 #[.agg us.toArray] w (RLineP (Sx.fldT ((nm,of_,up,6,lo,hi,ws,ns):Fld)) w):=by
 have hf:=Sx.fldB_bd hok
 obtain ⟨A,c,B,d,rfl,s1,s2,a4,a5,a6,a1,a2,a3,b1,b2,e1,e2⟩:=rep_f8 h
 obtain ⟨h1,h2,h3,h4,h5,h6,h7,h8,h9,_⟩:=hf
 replace h1:nm.size<=12:=h1
 replace h2:of_.size<=12:=h2
 replace h3:up.size<=12:=h3
 replace h4:-1048576<=lo/\lo<=1048576:=h4
 replace h5:-1048576<=hi/\hi<=1048576:=h5
 replace h6:ws.length<=12:=h6
 replace h7:ns.length=ws.length:=h7
 replace h8:∀ s∈ws,s.size<=12:=h8
 replace h9:∀ n∈ns,0<=n/\n<=1048576:=h9
 have hno:Sx.orN of_=of_:=Sx.nm_orN (by have hq:=hok;rw [show Sx.fldB ((nm,of_,up,6,lo,hi,ws,ns):Fld)=(Sx.nm nm && (Sx.em up && (Sx.noW ((nm,of_,up,6,lo,hi,ws,ns):Fld) && (decide (lo=0) && (decide (hi=0) && Sx.nm of_))))) from rfl] at hq;simp only [Bool.and_eq_true] at hq;exact hq.2.2.2.2.2)
 show Calls Tryz.prog 24 #[.agg #[.string nm,.string of_,.string up,.int .i64 6,.int .i64 lo,.int .i64 hi,.slice A ws.length c,.slice B ns.length d]] w _
 obtain ⟨nw,hnw⟩:=aX ws.length
 have HNW:=aI hnw
 have HNN:=aI (h7.trans hnw)
 have HWF:=aI h8
 have HNF:=aI h9
 rw [h7,hnw]
 rw [hnw] at h6
 obtain ⟨W1,hW1⟩:=aX (w.alloc (.cells #[.string nm,.string of_,.string up,.int .i64 6,.int .i64 lo,.int .i64 hi,.slice A nw c,.slice B nw d] 52))
 have hb0:Below w.heap.size w W1:=by rw [<-hW1];exact aP _ _
 have HB:=aI hb0
 have hbk:Blk W1 w.heap.size 52 #[.string nm,.string of_,.string up,.int .i64 6,.int .i64 lo,.int .i64 hi,.slice A nw c,.slice B nw d]:=by rw [<-hW1];exact Blk.new w _ _
 have HBK:=aI hbk
 have HS1:=aI (s1.keep (Chg.of_below hb0))
 have HS2:=aI (s2.keep (Chg.of_below hb0))
 have HW1:=aI hW1
 have CU:=aI (fun w=>show Calls Tryz.prog 69 #[.int .i64 6] w fun e w'=>e=.returned (.tuple #[.bool true,.bool false,.bool false,.bool false,.bool false])/\w=w' from uses_any 6 w)
 have CW:=aI rwords_any
 obtain ⟨wd,hwd⟩:=aX (wdR 6)
 have hwl:wd.size<=12:=by rw [<-hwd];exact wdR_size 6
 have HWL:=aI (show wd.data.toList=Sx.wordsL.getD 6 [] by rw [<-hwd];exact wdR_list 6)
 have HWG:=aI (show WRD[6]?=some (.string wd) by rw [<-hwd];exact wrd_get 6 (by decide))
 obtain ⟨Nf,hNf⟩:=aX w.heap.size
 have HNf:=aI hNf
 rw [hNf] at HBK
 have HC:=aI (Below.refl W1.heap.size W1)
 obtain ⟨c0,c1,c2,c3,c4,c5,c6,c7⟩:=aM8 (HBK.out.below HC.out HBK.out.lt)
 clear h7 h8 h9 hnw h s1 s2 a1 a2 a3 a4 a5 a6 b1 b2 e1 e2 hbk hW1 hb0 hwd hok hNf
 go_enter Tryz.func24,Tryz.ntmps24
 go_upto_region 1 with fail
 rw [HW1.out,HNf.out]
 go_wp2_with (go_at_call 69;(with_reducible refine aS (CU.out _) ?_))
 clear c0 c1 c2 c3 c4 c5 c6 c7
 apply wp_region_typed (C:=fun w'=>Below W1.heap.size W1 w') (n:=80) (m:=11) (l1:=[_,_,_,_,_,_,_,_,_,_,_]) (l2:=[])
 ·rfl
 ·rfl
 ·kernel_rfl
 ·rfl
 ·kernel_rfl
 ·exact ⟨rfl,rfl,rfl,ag _,fun _ _=>rfl⟩
 ·exact fun u u' h hb=>(by first | exact h.below hb | exact h.trans (hb.mono h.size))
 apply wpT_typed (slBlk_kept 9 9 WRD)
 ·intro w' hC hf;unfold Gives;clear hf hC
  go_wp2_with (go_at_call 70;(with_reducible refine (CW.out _).mono ?_);rintro e w2 ⟨g,rfl,hg,hB,hb2⟩)
  apply postT_mk rfl hb2;simp only [valAt,aV];exact ⟨g,rfl,hB⟩
 intro v28;(try simp only [Act.put,aZ])
 iterate 2 ((apply wpT_exact;· (intro w' hC hf;unfold Gives;obtain ⟨c0,c1,c2,c3,c4,c5,c6,c7⟩:=aM8 (HBK.out.below hC HBK.out.lt);clear hf hC;go_wp2_with (fail);apply postT_val rfl (Below.refl _ _);simp only [valAt,aV];exact rfl));(try simp only [Act.put,aZ]))
 apply wpT_typed (atCell_kept (.string wd))
 ·intro w' hC hf;unfold Gives
  obtain ⟨g,rfl,hB⟩:=hf.1 rfl
  have hcell:=(hB.cell 6).trans HWG.out
  have HCE:=aI hcell
  clear hf hC hcell hB
  go_wp2_with fail
  apply postT_mk rfl (Below.refl _ _);simp only [valAt,aV];exact atCell_of HCE.out
 intro v34;(try simp only [Act.put,aZ])
 apply wpT_exact
 ·intro w' hC hf;unfold Gives
  obtain ⟨a,rfl,hc⟩:=hf.1 rfl
  clear hf hC
  go_wp2_with fail
  apply postT_val rfl (Below.refl _ _);simp only [valAt,aV];exact rfl
 (try simp only [Act.put,aZ])
 iterate 6 ((apply wpT_exact;· (intro w' hC hf;unfold Gives;obtain ⟨c0,c1,c2,c3,c4,c5,c6,c7⟩:=aM8 (HBK.out.below hC HBK.out.lt);clear hf hC;go_wp2_with (fail);apply postT_val rfl (Below.refl _ _);simp only [valAt,aV];exact rfl));(try simp only [Act.put,aZ]))
 apply wpT_done
 intro w3 hC _
 replace HC:=aI hC
 clear hC
 obtain ⟨o0,ho0⟩:∃ o:ByteArray,(⟨#[10]⟩++wd++⟨#[32]⟩++nm:ByteArray)=o:=⟨_,rfl⟩
 rw [ho0]
 have ho0s:o0.size<=26:=by rw [<-ho0];simp only [ByteArray.size_append];rw [show (⟨#[10]⟩:ByteArray).size=1 from rfl,show (⟨#[32]⟩:ByteArray).size=1 from rfl];omega
 have HO0:=aI (show o0.data.toList=10::(Sx.wordsL.getD 6 []++32::Sx.bs nm) by rw [<-ho0,<-HWL.out];unfold Sx.bs;simp)
 clear ho0
 obtain ⟨c0,c1,c2,c3,c4,c5,c6,c7⟩:=aM8 (HBK.out.below HC.out HBK.out.lt)
 have CN:=aI (fun w=>rnamed_any of_ w)
 have hon:(Sx.orN of_).size<=12:=Sx.orN_sz h2 (by decide)
 obtain ⟨on,hon9⟩:=aX (Sx.orN of_)
 rw [hon9] at CN hon hno
 have HON:=aI hon9
 clear hon9
 have HNO:=aI hno
 clear hno
 obtain ⟨o1,ho1⟩:∃ o:ByteArray,((o0++⟨#[32]⟩++on):ByteArray)=o:=⟨_,rfl⟩
 have ho1s:o1.size<=39:=by rw [<-ho1];simp only [ByteArray.size_append];rw [show (⟨#[32]⟩:ByteArray).size=1 from rfl];omega
 have HO1:=aI ho1
 clear ho1
 go_upto_region 7 with (first | (go_at_call 25;(with_reducible refine aS (CN.out _) ?_)))
 rw [HO1.out]
 go_wp2_with (first | (go_at_call 25;(with_reducible refine aS (CN.out _) ?_)))
 go_ret
 refine ⟨_,rfl,?_,HB.out.trans (HC.out.mono HB.out.size)⟩
 show ((o1):ByteArray).data.toList=10::Sx.lnJ (Sx.fldT ((nm,of_,up,6,lo,hi,ws,ns):Fld))
 rw [<-HO1.out]
 have hx:=HO0.out
 have hy:=HON.out
 have hz:=HNO.out
 show _=10::(Sx.wordsL.getD 6 []++(Sx.bs nm::[Sx.bs of_]).flatMap fun u=>32::u)
 rw [<-hz]
 simp [hx,Sx.bs]
theorem rline_7 (nm of_ up:ByteArray) (lo hi:Int) (ws:List ByteArray) (ns:List Int) (us:List Value) (w:World) (h:Mem.rep [] w ((nm,of_,up,7,lo,hi,ws,ns):Fld) us) (hok:Sx.fldB ((nm,of_,up,7,lo,hi,ws,ns):Fld)=true):Calls Tryz.prog 24 #[.agg us.toArray] w (RLineP (Sx.fldT ((nm,of_,up,7,lo,hi,ws,ns):Fld)) w):=by
 have hf:=Sx.fldB_bd hok
 obtain ⟨A,c,B,d,rfl,s1,s2,a4,a5,a6,a1,a2,a3,b1,b2,e1,e2⟩:=rep_f8 h
 obtain ⟨h1,h2,h3,h4,h5,h6,h7,h8,h9,_⟩:=hf
 replace h1:nm.size<=12:=h1
 replace h2:of_.size<=12:=h2
 replace h3:up.size<=12:=h3
 replace h4:-1048576<=lo/\lo<=1048576:=h4
 replace h5:-1048576<=hi/\hi<=1048576:=h5
 replace h6:ws.length<=12:=h6
 replace h7:ns.length=ws.length:=h7
 replace h8:∀ s∈ws,s.size<=12:=h8
 replace h9:∀ n∈ns,0<=n/\n<=1048576:=h9
 have hno:Sx.orN of_=of_:=Sx.nm_orN (by have hq:=hok;rw [show Sx.fldB ((nm,of_,up,7,lo,hi,ws,ns):Fld)=(Sx.nm nm && (Sx.noW ((nm,of_,up,7,lo,hi,ws,ns):Fld) && (Sx.nm of_ && (Sx.nm up && Sx.span lo hi 0 Sx.most)))) from rfl] at hq;simp only [Bool.and_eq_true] at hq;exact hq.2.2.1)
 show Calls Tryz.prog 24 #[.agg #[.string nm,.string of_,.string up,.int .i64 7,.int .i64 lo,.int .i64 hi,.slice A ws.length c,.slice B ns.length d]] w _
 obtain ⟨nw,hnw⟩:=aX ws.length
 have HNW:=aI hnw
 have HNN:=aI (h7.trans hnw)
 have HWF:=aI h8
 have HNF:=aI h9
 rw [h7,hnw]
 rw [hnw] at h6
 obtain ⟨W1,hW1⟩:=aX (w.alloc (.cells #[.string nm,.string of_,.string up,.int .i64 7,.int .i64 lo,.int .i64 hi,.slice A nw c,.slice B nw d] 52))
 have hb0:Below w.heap.size w W1:=by rw [<-hW1];exact aP _ _
 have HB:=aI hb0
 have hbk:Blk W1 w.heap.size 52 #[.string nm,.string of_,.string up,.int .i64 7,.int .i64 lo,.int .i64 hi,.slice A nw c,.slice B nw d]:=by rw [<-hW1];exact Blk.new w _ _
 have HBK:=aI hbk
 have HS1:=aI (s1.keep (Chg.of_below hb0))
 have HS2:=aI (s2.keep (Chg.of_below hb0))
 have HW1:=aI hW1
 have CU:=aI (fun w=>show Calls Tryz.prog 69 #[.int .i64 7] w fun e w'=>e=.returned (.tuple #[.bool true,.bool true,.bool true,.bool true,.bool false])/\w=w' from uses_any 7 w)
 have CW:=aI rwords_any
 obtain ⟨wd,hwd⟩:=aX (wdR 7)
 have hwl:wd.size<=12:=by rw [<-hwd];exact wdR_size 7
 have HWL:=aI (show wd.data.toList=Sx.wordsL.getD 7 [] by rw [<-hwd];exact wdR_list 7)
 have HWG:=aI (show WRD[7]?=some (.string wd) by rw [<-hwd];exact wrd_get 7 (by decide))
 obtain ⟨Nf,hNf⟩:=aX w.heap.size
 have HNf:=aI hNf
 rw [hNf] at HBK
 have HC:=aI (Below.refl W1.heap.size W1)
 obtain ⟨c0,c1,c2,c3,c4,c5,c6,c7⟩:=aM8 (HBK.out.below HC.out HBK.out.lt)
 clear h7 h8 h9 hnw h s1 s2 a1 a2 a3 a4 a5 a6 b1 b2 e1 e2 hbk hW1 hb0 hwd hok hNf
 go_enter Tryz.func24,Tryz.ntmps24
 go_upto_region 1 with fail
 rw [HW1.out,HNf.out]
 go_wp2_with (go_at_call 69;(with_reducible refine aS (CU.out _) ?_))
 clear c0 c1 c2 c3 c4 c5 c6 c7
 apply wp_region_typed (C:=fun w'=>Below W1.heap.size W1 w') (n:=80) (m:=11) (l1:=[_,_,_,_,_,_,_,_,_,_,_]) (l2:=[])
 ·rfl
 ·rfl
 ·kernel_rfl
 ·rfl
 ·kernel_rfl
 ·exact ⟨rfl,rfl,rfl,ag _,fun _ _=>rfl⟩
 ·exact fun u u' h hb=>(by first | exact h.below hb | exact h.trans (hb.mono h.size))
 apply wpT_typed (slBlk_kept 9 9 WRD)
 ·intro w' hC hf;unfold Gives;clear hf hC
  go_wp2_with (go_at_call 70;(with_reducible refine (CW.out _).mono ?_);rintro e w2 ⟨g,rfl,hg,hB,hb2⟩)
  apply postT_mk rfl hb2;simp only [valAt,aV];exact ⟨g,rfl,hB⟩
 intro v28;(try simp only [Act.put,aZ])
 iterate 2 ((apply wpT_exact;· (intro w' hC hf;unfold Gives;obtain ⟨c0,c1,c2,c3,c4,c5,c6,c7⟩:=aM8 (HBK.out.below hC HBK.out.lt);clear hf hC;go_wp2_with (fail);apply postT_val rfl (Below.refl _ _);simp only [valAt,aV];exact rfl));(try simp only [Act.put,aZ]))
 apply wpT_typed (atCell_kept (.string wd))
 ·intro w' hC hf;unfold Gives
  obtain ⟨g,rfl,hB⟩:=hf.1 rfl
  have hcell:=(hB.cell 7).trans HWG.out
  have HCE:=aI hcell
  clear hf hC hcell hB
  go_wp2_with fail
  apply postT_mk rfl (Below.refl _ _);simp only [valAt,aV];exact atCell_of HCE.out
 intro v34;(try simp only [Act.put,aZ])
 apply wpT_exact
 ·intro w' hC hf;unfold Gives
  obtain ⟨a,rfl,hc⟩:=hf.1 rfl
  clear hf hC
  go_wp2_with fail
  apply postT_val rfl (Below.refl _ _);simp only [valAt,aV];exact rfl
 (try simp only [Act.put,aZ])
 iterate 6 ((apply wpT_exact;· (intro w' hC hf;unfold Gives;obtain ⟨c0,c1,c2,c3,c4,c5,c6,c7⟩:=aM8 (HBK.out.below hC HBK.out.lt);clear hf hC;go_wp2_with (fail);apply postT_val rfl (Below.refl _ _);simp only [valAt,aV];exact rfl));(try simp only [Act.put,aZ]))
 apply wpT_done
 intro w3 hC _
 replace HC:=aI hC
 clear hC
 obtain ⟨o0,ho0⟩:∃ o:ByteArray,(⟨#[10]⟩++wd++⟨#[32]⟩++nm:ByteArray)=o:=⟨_,rfl⟩
 rw [ho0]
 have ho0s:o0.size<=26:=by rw [<-ho0];simp only [ByteArray.size_append];rw [show (⟨#[10]⟩:ByteArray).size=1 from rfl,show (⟨#[32]⟩:ByteArray).size=1 from rfl];omega
 have HO0:=aI (show o0.data.toList=10::(Sx.wordsL.getD 7 []++32::Sx.bs nm) by rw [<-ho0,<-HWL.out];unfold Sx.bs;simp)
 clear ho0
 obtain ⟨c0,c1,c2,c3,c4,c5,c6,c7⟩:=aM8 (HBK.out.below HC.out HBK.out.lt)
 have CN:=aI (fun w=>rnamed_any of_ w)
 have hon:(Sx.orN of_).size<=12:=Sx.orN_sz h2 (by decide)
 obtain ⟨on,hon9⟩:=aX (Sx.orN of_)
 rw [hon9] at CN hon hno
 have HON:=aI hon9
 clear hon9
 have HNO:=aI hno
 clear hno
 obtain ⟨o1,ho1⟩:∃ o:ByteArray,(((o0++⟨#[32]⟩++up)++⟨#[32]⟩++on):ByteArray)=o:=⟨_,rfl⟩
 have ho1s:o1.size<=52:=by rw [<-ho1];simp only [ByteArray.size_append];rw [show (⟨#[32]⟩:ByteArray).size=1 from rfl];omega
 have HO1:=aI ho1
 clear ho1
 have CA1:=aI (fun w=>and_any o1 lo w (by omega) (by omega))
 have CA2:=aI (fun w=>and_any (andS o1 lo) hi w (by have:=andS_size o1 lo (by omega);omega) (by omega))
 go_upto_region 7 with (first | (go_at_call 25;(with_reducible refine aS (CN.out _) ?_)) | (go_at_call 23;(with_reducible refine (CA1.out _).mono ?_);rintro e w5 ⟨rfl,hb5⟩;replace HC:=aT HC hb5;clear hb5;clear c0 c1 c2 c3 c4 c5 c6 c7;obtain ⟨c0,c1,c2,c3,c4,c5,c6,c7⟩:=aM8 (HBK.out.below HC.out HBK.out.lt)) | (go_at_call 23;(with_reducible refine (CA2.out _).mono ?_);rintro e w5 ⟨rfl,hb5⟩;replace HC:=aT HC hb5;clear hb5;clear c0 c1 c2 c3 c4 c5 c6 c7;obtain ⟨c0,c1,c2,c3,c4,c5,c6,c7⟩:=aM8 (HBK.out.below HC.out HBK.out.lt)))
 rw [HO1.out]
 go_wp2_with (first | (go_at_call 25;(with_reducible refine aS (CN.out _) ?_)) | (go_at_call 23;(with_reducible refine (CA1.out _).mono ?_);rintro e w5 ⟨rfl,hb5⟩;replace HC:=aT HC hb5;clear hb5;clear c0 c1 c2 c3 c4 c5 c6 c7;obtain ⟨c0,c1,c2,c3,c4,c5,c6,c7⟩:=aM8 (HBK.out.below HC.out HBK.out.lt)) | (go_at_call 23;(with_reducible refine (CA2.out _).mono ?_);rintro e w5 ⟨rfl,hb5⟩;replace HC:=aT HC hb5;clear hb5;clear c0 c1 c2 c3 c4 c5 c6 c7;obtain ⟨c0,c1,c2,c3,c4,c5,c6,c7⟩:=aM8 (HBK.out.below HC.out HBK.out.lt)))
 go_ret
 refine ⟨_,rfl,?_,HB.out.trans (HC.out.mono HB.out.size)⟩
 show (((andS (andS o1 lo) hi)):ByteArray).data.toList=10::Sx.lnJ (Sx.fldT ((nm,of_,up,7,lo,hi,ws,ns):Fld))
 rw [andS_list,andS_list]
 rw [<-HO1.out]
 have hx:=HO0.out
 have hy:=HON.out
 have hz:=HNO.out
 show _=10::(Sx.wordsL.getD 7 []++(Sx.bs nm::[Sx.bs up,Sx.bs of_,Sx.num lo,Sx.num hi]).flatMap fun u=>32::u)
 rw [<-hz]
 simp [hx,Sx.bs]
theorem rline_8 (nm of_ up:ByteArray) (lo hi:Int) (ws:List ByteArray) (ns:List Int) (us:List Value) (w:World) (h:Mem.rep [] w ((nm,of_,up,8,lo,hi,ws,ns):Fld) us) (hok:Sx.fldB ((nm,of_,up,8,lo,hi,ws,ns):Fld)=true):Calls Tryz.prog 24 #[.agg us.toArray] w (RLineP (Sx.fldT ((nm,of_,up,8,lo,hi,ws,ns):Fld)) w):=by
 have hf:=Sx.fldB_bd hok
 obtain ⟨A,c,B,d,rfl,s1,s2,a4,a5,a6,a1,a2,a3,b1,b2,e1,e2⟩:=rep_f8 h
 obtain ⟨h1,h2,h3,h4,h5,h6,h7,h8,h9,_⟩:=hf
 replace h1:nm.size<=12:=h1
 replace h2:of_.size<=12:=h2
 replace h3:up.size<=12:=h3
 replace h4:-1048576<=lo/\lo<=1048576:=h4
 replace h5:-1048576<=hi/\hi<=1048576:=h5
 replace h6:ws.length<=12:=h6
 replace h7:ns.length=ws.length:=h7
 replace h8:∀ s∈ws,s.size<=12:=h8
 replace h9:∀ n∈ns,0<=n/\n<=1048576:=h9
 have hno:Sx.orN of_=of_:=Sx.nm_orN (by have hq:=hok;rw [show Sx.fldB ((nm,of_,up,8,lo,hi,ws,ns):Fld)=(Sx.nm nm && (Sx.noW ((nm,of_,up,8,lo,hi,ws,ns):Fld) && (decide (lo=0) && (decide (hi=0) && (Sx.nm of_ && Sx.nm up))))) from rfl] at hq;simp only [Bool.and_eq_true] at hq;exact hq.2.2.2.2.1)
 show Calls Tryz.prog 24 #[.agg #[.string nm,.string of_,.string up,.int .i64 8,.int .i64 lo,.int .i64 hi,.slice A ws.length c,.slice B ns.length d]] w _
 obtain ⟨nw,hnw⟩:=aX ws.length
 have HNW:=aI hnw
 have HNN:=aI (h7.trans hnw)
 have HWF:=aI h8
 have HNF:=aI h9
 rw [h7,hnw]
 rw [hnw] at h6
 obtain ⟨W1,hW1⟩:=aX (w.alloc (.cells #[.string nm,.string of_,.string up,.int .i64 8,.int .i64 lo,.int .i64 hi,.slice A nw c,.slice B nw d] 52))
 have hb0:Below w.heap.size w W1:=by rw [<-hW1];exact aP _ _
 have HB:=aI hb0
 have hbk:Blk W1 w.heap.size 52 #[.string nm,.string of_,.string up,.int .i64 8,.int .i64 lo,.int .i64 hi,.slice A nw c,.slice B nw d]:=by rw [<-hW1];exact Blk.new w _ _
 have HBK:=aI hbk
 have HS1:=aI (s1.keep (Chg.of_below hb0))
 have HS2:=aI (s2.keep (Chg.of_below hb0))
 have HW1:=aI hW1
 have CU:=aI (fun w=>show Calls Tryz.prog 69 #[.int .i64 8] w fun e w'=>e=.returned (.tuple #[.bool true,.bool true,.bool false,.bool false,.bool false])/\w=w' from uses_any 8 w)
 have CW:=aI rwords_any
 obtain ⟨wd,hwd⟩:=aX (wdR 8)
 have hwl:wd.size<=12:=by rw [<-hwd];exact wdR_size 8
 have HWL:=aI (show wd.data.toList=Sx.wordsL.getD 8 [] by rw [<-hwd];exact wdR_list 8)
 have HWG:=aI (show WRD[8]?=some (.string wd) by rw [<-hwd];exact wrd_get 8 (by decide))
 obtain ⟨Nf,hNf⟩:=aX w.heap.size
 have HNf:=aI hNf
 rw [hNf] at HBK
 have HC:=aI (Below.refl W1.heap.size W1)
 obtain ⟨c0,c1,c2,c3,c4,c5,c6,c7⟩:=aM8 (HBK.out.below HC.out HBK.out.lt)
 clear h7 h8 h9 hnw h s1 s2 a1 a2 a3 a4 a5 a6 b1 b2 e1 e2 hbk hW1 hb0 hwd hok hNf
 go_enter Tryz.func24,Tryz.ntmps24
 go_upto_region 1 with fail
 rw [HW1.out,HNf.out]
 go_wp2_with (go_at_call 69;(with_reducible refine aS (CU.out _) ?_))
 clear c0 c1 c2 c3 c4 c5 c6 c7
 apply wp_region_typed (C:=fun w'=>Below W1.heap.size W1 w') (n:=80) (m:=11) (l1:=[_,_,_,_,_,_,_,_,_,_,_]) (l2:=[])
 ·rfl
 ·rfl
 ·kernel_rfl
 ·rfl
 ·kernel_rfl
 ·exact ⟨rfl,rfl,rfl,ag _,fun _ _=>rfl⟩
 ·exact fun u u' h hb=>(by first | exact h.below hb | exact h.trans (hb.mono h.size))
 apply wpT_typed (slBlk_kept 9 9 WRD)
 ·intro w' hC hf;unfold Gives;clear hf hC
  go_wp2_with (go_at_call 70;(with_reducible refine (CW.out _).mono ?_);rintro e w2 ⟨g,rfl,hg,hB,hb2⟩)
  apply postT_mk rfl hb2;simp only [valAt,aV];exact ⟨g,rfl,hB⟩
 intro v28;(try simp only [Act.put,aZ])
 iterate 2 ((apply wpT_exact;· (intro w' hC hf;unfold Gives;obtain ⟨c0,c1,c2,c3,c4,c5,c6,c7⟩:=aM8 (HBK.out.below hC HBK.out.lt);clear hf hC;go_wp2_with (fail);apply postT_val rfl (Below.refl _ _);simp only [valAt,aV];exact rfl));(try simp only [Act.put,aZ]))
 apply wpT_typed (atCell_kept (.string wd))
 ·intro w' hC hf;unfold Gives
  obtain ⟨g,rfl,hB⟩:=hf.1 rfl
  have hcell:=(hB.cell 8).trans HWG.out
  have HCE:=aI hcell
  clear hf hC hcell hB
  go_wp2_with fail
  apply postT_mk rfl (Below.refl _ _);simp only [valAt,aV];exact atCell_of HCE.out
 intro v34;(try simp only [Act.put,aZ])
 apply wpT_exact
 ·intro w' hC hf;unfold Gives
  obtain ⟨a,rfl,hc⟩:=hf.1 rfl
  clear hf hC
  go_wp2_with fail
  apply postT_val rfl (Below.refl _ _);simp only [valAt,aV];exact rfl
 (try simp only [Act.put,aZ])
 iterate 6 ((apply wpT_exact;· (intro w' hC hf;unfold Gives;obtain ⟨c0,c1,c2,c3,c4,c5,c6,c7⟩:=aM8 (HBK.out.below hC HBK.out.lt);clear hf hC;go_wp2_with (fail);apply postT_val rfl (Below.refl _ _);simp only [valAt,aV];exact rfl));(try simp only [Act.put,aZ]))
 apply wpT_done
 intro w3 hC _
 replace HC:=aI hC
 clear hC
 obtain ⟨o0,ho0⟩:∃ o:ByteArray,(⟨#[10]⟩++wd++⟨#[32]⟩++nm:ByteArray)=o:=⟨_,rfl⟩
 rw [ho0]
 have ho0s:o0.size<=26:=by rw [<-ho0];simp only [ByteArray.size_append];rw [show (⟨#[10]⟩:ByteArray).size=1 from rfl,show (⟨#[32]⟩:ByteArray).size=1 from rfl];omega
 have HO0:=aI (show o0.data.toList=10::(Sx.wordsL.getD 8 []++32::Sx.bs nm) by rw [<-ho0,<-HWL.out];unfold Sx.bs;simp)
 clear ho0
 obtain ⟨c0,c1,c2,c3,c4,c5,c6,c7⟩:=aM8 (HBK.out.below HC.out HBK.out.lt)
 have CN:=aI (fun w=>rnamed_any of_ w)
 have hon:(Sx.orN of_).size<=12:=Sx.orN_sz h2 (by decide)
 obtain ⟨on,hon9⟩:=aX (Sx.orN of_)
 rw [hon9] at CN hon hno
 have HON:=aI hon9
 clear hon9
 have HNO:=aI hno
 clear hno
 obtain ⟨o1,ho1⟩:∃ o:ByteArray,(((o0++⟨#[32]⟩++up)++⟨#[32]⟩++on):ByteArray)=o:=⟨_,rfl⟩
 have ho1s:o1.size<=52:=by rw [<-ho1];simp only [ByteArray.size_append];rw [show (⟨#[32]⟩:ByteArray).size=1 from rfl];omega
 have HO1:=aI ho1
 clear ho1
 go_upto_region 7 with (first | (go_at_call 25;(with_reducible refine aS (CN.out _) ?_)))
 rw [HO1.out]
 go_wp2_with (first | (go_at_call 25;(with_reducible refine aS (CN.out _) ?_)))
 go_ret
 refine ⟨_,rfl,?_,HB.out.trans (HC.out.mono HB.out.size)⟩
 show ((o1):ByteArray).data.toList=10::Sx.lnJ (Sx.fldT ((nm,of_,up,8,lo,hi,ws,ns):Fld))
 rw [<-HO1.out]
 have hx:=HO0.out
 have hy:=HON.out
 have hz:=HNO.out
 show _=10::(Sx.wordsL.getD 8 []++(Sx.bs nm::[Sx.bs up,Sx.bs of_]).flatMap fun u=>32::u)
 rw [<-hz]
 simp [hx,Sx.bs]
theorem rline_1 (nm of_ up:ByteArray) (lo hi:Int) (ws:List ByteArray) (ns:List Int) (us:List Value) (w:World) (h:Mem.rep [] w ((nm,of_,up,1,lo,hi,ws,ns):Fld) us) (hok:Sx.fldB ((nm,of_,up,1,lo,hi,ws,ns):Fld)=true):Calls Tryz.prog 24 #[.agg us.toArray] w (RLineP (Sx.fldT ((nm,of_,up,1,lo,hi,ws,ns):Fld)) w):=by
 have hf:=Sx.fldB_bd hok
 obtain ⟨A,c,B,d,rfl,s1,s2,a4,a5,a6,a1,a2,a3,b1,b2,e1,e2⟩:=rep_f8 h
 obtain ⟨h1,h2,h3,h4,h5,h6,h7,h8,h9,_⟩:=hf
 replace h1:nm.size<=12:=h1
 replace h2:of_.size<=12:=h2
 replace h3:up.size<=12:=h3
 replace h4:-1048576<=lo/\lo<=1048576:=h4
 replace h5:-1048576<=hi/\hi<=1048576:=h5
 replace h6:ws.length<=12:=h6
 replace h7:ns.length=ws.length:=h7
 replace h8:∀ s∈ws,s.size<=12:=h8
 replace h9:∀ n∈ns,0<=n/\n<=1048576:=h9
 show Calls Tryz.prog 24 #[.agg #[.string nm,.string of_,.string up,.int .i64 1,.int .i64 lo,.int .i64 hi,.slice A ws.length c,.slice B ns.length d]] w _
 obtain ⟨nw,hnw⟩:=aX ws.length
 have HNW:=aI hnw
 have HNN:=aI (h7.trans hnw)
 have HWF:=aI h8
 have HNF:=aI h9
 rw [h7,hnw]
 rw [hnw] at h6
 obtain ⟨W1,hW1⟩:=aX (w.alloc (.cells #[.string nm,.string of_,.string up,.int .i64 1,.int .i64 lo,.int .i64 hi,.slice A nw c,.slice B nw d] 52))
 have hb0:Below w.heap.size w W1:=by rw [<-hW1];exact aP _ _
 have HB:=aI hb0
 have hbk:Blk W1 w.heap.size 52 #[.string nm,.string of_,.string up,.int .i64 1,.int .i64 lo,.int .i64 hi,.slice A nw c,.slice B nw d]:=by rw [<-hW1];exact Blk.new w _ _
 have HBK:=aI hbk
 have HS1:=aI (s1.keep (Chg.of_below hb0))
 have HS2:=aI (s2.keep (Chg.of_below hb0))
 have HW1:=aI hW1
 have CU:=aI (fun w=>show Calls Tryz.prog 69 #[.int .i64 1] w fun e w'=>e=.returned (.tuple #[.bool true,.bool false,.bool true,.bool true,.bool false])/\w=w' from uses_any 1 w)
 have CW:=aI rwords_any
 obtain ⟨wd,hwd⟩:=aX (wdR 1)
 have hwl:wd.size<=12:=by rw [<-hwd];exact wdR_size 1
 have HWL:=aI (show wd.data.toList=Sx.wordsL.getD 1 [] by rw [<-hwd];exact wdR_list 1)
 have HWG:=aI (show WRD[1]?=some (.string wd) by rw [<-hwd];exact wrd_get 1 (by decide))
 obtain ⟨Nf,hNf⟩:=aX w.heap.size
 have HNf:=aI hNf
 rw [hNf] at HBK
 have HC:=aI (Below.refl W1.heap.size W1)
 obtain ⟨c0,c1,c2,c3,c4,c5,c6,c7⟩:=aM8 (HBK.out.below HC.out HBK.out.lt)
 clear h7 h8 h9 hnw h s1 s2 a1 a2 a3 a4 a5 a6 b1 b2 e1 e2 hbk hW1 hb0 hwd hok hNf
 go_enter Tryz.func24,Tryz.ntmps24
 go_upto_region 1 with fail
 rw [HW1.out,HNf.out]
 go_wp2_with (go_at_call 69;(with_reducible refine aS (CU.out _) ?_))
 clear c0 c1 c2 c3 c4 c5 c6 c7
 apply wp_region_typed (C:=fun w'=>Below W1.heap.size W1 w') (n:=80) (m:=11) (l1:=[_,_,_,_,_,_,_,_,_,_,_]) (l2:=[])
 ·rfl
 ·rfl
 ·kernel_rfl
 ·rfl
 ·kernel_rfl
 ·exact ⟨rfl,rfl,rfl,ag _,fun _ _=>rfl⟩
 ·exact fun u u' h hb=>(by first | exact h.below hb | exact h.trans (hb.mono h.size))
 apply wpT_typed (slBlk_kept 9 9 WRD)
 ·intro w' hC hf;unfold Gives;clear hf hC
  go_wp2_with (go_at_call 70;(with_reducible refine (CW.out _).mono ?_);rintro e w2 ⟨g,rfl,hg,hB,hb2⟩)
  apply postT_mk rfl hb2;simp only [valAt,aV];exact ⟨g,rfl,hB⟩
 intro v28;(try simp only [Act.put,aZ])
 iterate 2 ((apply wpT_exact;· (intro w' hC hf;unfold Gives;obtain ⟨c0,c1,c2,c3,c4,c5,c6,c7⟩:=aM8 (HBK.out.below hC HBK.out.lt);clear hf hC;go_wp2_with (fail);apply postT_val rfl (Below.refl _ _);simp only [valAt,aV];exact rfl));(try simp only [Act.put,aZ]))
 apply wpT_typed (atCell_kept (.string wd))
 ·intro w' hC hf;unfold Gives
  obtain ⟨g,rfl,hB⟩:=hf.1 rfl
  have hcell:=(hB.cell 1).trans HWG.out
  have HCE:=aI hcell
  clear hf hC hcell hB
  go_wp2_with fail
  apply postT_mk rfl (Below.refl _ _);simp only [valAt,aV];exact atCell_of HCE.out
 intro v34;(try simp only [Act.put,aZ])
 apply wpT_exact
 ·intro w' hC hf;unfold Gives
  obtain ⟨a,rfl,hc⟩:=hf.1 rfl
  clear hf hC
  go_wp2_with fail
  apply postT_val rfl (Below.refl _ _);simp only [valAt,aV];exact rfl
 (try simp only [Act.put,aZ])
 iterate 6 ((apply wpT_exact;· (intro w' hC hf;unfold Gives;obtain ⟨c0,c1,c2,c3,c4,c5,c6,c7⟩:=aM8 (HBK.out.below hC HBK.out.lt);clear hf hC;go_wp2_with (fail);apply postT_val rfl (Below.refl _ _);simp only [valAt,aV];exact rfl));(try simp only [Act.put,aZ]))
 apply wpT_done
 intro w3 hC _
 replace HC:=aI hC
 clear hC
 obtain ⟨o0,ho0⟩:∃ o:ByteArray,(⟨#[10]⟩++wd++⟨#[32]⟩++nm:ByteArray)=o:=⟨_,rfl⟩
 rw [ho0]
 have ho0s:o0.size<=26:=by rw [<-ho0];simp only [ByteArray.size_append];rw [show (⟨#[10]⟩:ByteArray).size=1 from rfl,show (⟨#[32]⟩:ByteArray).size=1 from rfl];omega
 have HO0:=aI (show o0.data.toList=10::(Sx.wordsL.getD 1 []++32::Sx.bs nm) by rw [<-ho0,<-HWL.out];unfold Sx.bs;simp)
 clear ho0
 obtain ⟨c0,c1,c2,c3,c4,c5,c6,c7⟩:=aM8 (HBK.out.below HC.out HBK.out.lt)
 have CN:=aI (fun w=>rnamed_any of_ w)
 have hon:(Sx.orN of_).size<=12:=Sx.orN_sz h2 (by decide)
 obtain ⟨on,hon9⟩:=aX (Sx.orN of_)
 rw [hon9] at CN hon
 have HON:=aI hon9
 clear hon9
 obtain ⟨o1,ho1⟩:∃ o:ByteArray,((o0++⟨#[32]⟩++on):ByteArray)=o:=⟨_,rfl⟩
 have ho1s:o1.size<=39:=by rw [<-ho1];simp only [ByteArray.size_append];rw [show (⟨#[32]⟩:ByteArray).size=1 from rfl];omega
 have HO1:=aI ho1
 clear ho1
 have CA1:=aI (fun w=>and_any o1 lo w (by omega) (by omega))
 have CA2:=aI (fun w=>and_any (andS o1 lo) hi w (by have:=andS_size o1 lo (by omega);omega) (by omega))
 go_upto_region 7 with (first | (go_at_call 25;(with_reducible refine aS (CN.out _) ?_)) | (go_at_call 23;(with_reducible refine (CA1.out _).mono ?_);rintro e w5 ⟨rfl,hb5⟩;replace HC:=aT HC hb5;clear hb5;clear c0 c1 c2 c3 c4 c5 c6 c7;obtain ⟨c0,c1,c2,c3,c4,c5,c6,c7⟩:=aM8 (HBK.out.below HC.out HBK.out.lt)) | (go_at_call 23;(with_reducible refine (CA2.out _).mono ?_);rintro e w5 ⟨rfl,hb5⟩;replace HC:=aT HC hb5;clear hb5;clear c0 c1 c2 c3 c4 c5 c6 c7;obtain ⟨c0,c1,c2,c3,c4,c5,c6,c7⟩:=aM8 (HBK.out.below HC.out HBK.out.lt)))
 rw [HO1.out]
 go_wp2_with (first | (go_at_call 25;(with_reducible refine aS (CN.out _) ?_)) | (go_at_call 23;(with_reducible refine (CA1.out _).mono ?_);rintro e w5 ⟨rfl,hb5⟩;replace HC:=aT HC hb5;clear hb5;clear c0 c1 c2 c3 c4 c5 c6 c7;obtain ⟨c0,c1,c2,c3,c4,c5,c6,c7⟩:=aM8 (HBK.out.below HC.out HBK.out.lt)) | (go_at_call 23;(with_reducible refine (CA2.out _).mono ?_);rintro e w5 ⟨rfl,hb5⟩;replace HC:=aT HC hb5;clear hb5;clear c0 c1 c2 c3 c4 c5 c6 c7;obtain ⟨c0,c1,c2,c3,c4,c5,c6,c7⟩:=aM8 (HBK.out.below HC.out HBK.out.lt)))
 go_ret
 refine ⟨_,rfl,?_,HB.out.trans (HC.out.mono HB.out.size)⟩
 show (((andS (andS o1 lo) hi)):ByteArray).data.toList=10::Sx.lnJ (Sx.fldT ((nm,of_,up,1,lo,hi,ws,ns):Fld))
 rw [andS_list,andS_list]
 rw [<-HO1.out]
 have hx:=HO0.out
 have hy:=HON.out
 show _=10::(Sx.wordsL.getD 1 []++(Sx.bs nm::[Sx.orNone of_,Sx.num lo,Sx.num hi]).flatMap fun u=>32::u)
 rw [<-Sx.orN_list,hy]
 simp [hx,Sx.bs]
theorem rline_4 (nm of_ up:ByteArray) (lo hi:Int) (ws:List ByteArray) (ns:List Int) (us:List Value) (w:World) (h:Mem.rep [] w ((nm,of_,up,4,lo,hi,ws,ns):Fld) us) (hok:Sx.fldB ((nm,of_,up,4,lo,hi,ws,ns):Fld)=true):Calls Tryz.prog 24 #[.agg us.toArray] w (RLineP (Sx.fldT ((nm,of_,up,4,lo,hi,ws,ns):Fld)) w):=by
 have hf:=Sx.fldB_bd hok
 obtain ⟨A,c,B,d,rfl,s1,s2,a4,a5,a6,a1,a2,a3,b1,b2,e1,e2⟩:=rep_f8 h
 obtain ⟨h1,h2,h3,h4,h5,h6,h7,h8,h9,_⟩:=hf
 replace h1:nm.size<=12:=h1
 replace h2:of_.size<=12:=h2
 replace h3:up.size<=12:=h3
 replace h4:-1048576<=lo/\lo<=1048576:=h4
 replace h5:-1048576<=hi/\hi<=1048576:=h5
 replace h6:ws.length<=12:=h6
 replace h7:ns.length=ws.length:=h7
 replace h8:∀ s∈ws,s.size<=12:=h8
 replace h9:∀ n∈ns,0<=n/\n<=1048576:=h9
 show Calls Tryz.prog 24 #[.agg #[.string nm,.string of_,.string up,.int .i64 4,.int .i64 lo,.int .i64 hi,.slice A ws.length c,.slice B ns.length d]] w _
 obtain ⟨nw,hnw⟩:=aX ws.length
 have HNW:=aI hnw
 have HNN:=aI (h7.trans hnw)
 have HWF:=aI h8
 have HNF:=aI h9
 rw [h7,hnw]
 rw [hnw] at h6
 obtain ⟨W1,hW1⟩:=aX (w.alloc (.cells #[.string nm,.string of_,.string up,.int .i64 4,.int .i64 lo,.int .i64 hi,.slice A nw c,.slice B nw d] 52))
 have hb0:Below w.heap.size w W1:=by rw [<-hW1];exact aP _ _
 have HB:=aI hb0
 have hbk:Blk W1 w.heap.size 52 #[.string nm,.string of_,.string up,.int .i64 4,.int .i64 lo,.int .i64 hi,.slice A nw c,.slice B nw d]:=by rw [<-hW1];exact Blk.new w _ _
 have HBK:=aI hbk
 have HS1:=aI (s1.keep (Chg.of_below hb0))
 have HS2:=aI (s2.keep (Chg.of_below hb0))
 have HW1:=aI hW1
 have CU:=aI (fun w=>show Calls Tryz.prog 69 #[.int .i64 4] w fun e w'=>e=.returned (.tuple #[.bool true,.bool false,.bool true,.bool true,.bool false])/\w=w' from uses_any 4 w)
 have CW:=aI rwords_any
 obtain ⟨wd,hwd⟩:=aX (wdR 4)
 have hwl:wd.size<=12:=by rw [<-hwd];exact wdR_size 4
 have HWL:=aI (show wd.data.toList=Sx.wordsL.getD 4 [] by rw [<-hwd];exact wdR_list 4)
 have HWG:=aI (show WRD[4]?=some (.string wd) by rw [<-hwd];exact wrd_get 4 (by decide))
 obtain ⟨Nf,hNf⟩:=aX w.heap.size
 have HNf:=aI hNf
 rw [hNf] at HBK
 have HC:=aI (Below.refl W1.heap.size W1)
 obtain ⟨c0,c1,c2,c3,c4,c5,c6,c7⟩:=aM8 (HBK.out.below HC.out HBK.out.lt)
 clear h7 h8 h9 hnw h s1 s2 a1 a2 a3 a4 a5 a6 b1 b2 e1 e2 hbk hW1 hb0 hwd hok hNf
 go_enter Tryz.func24,Tryz.ntmps24
 go_upto_region 1 with fail
 rw [HW1.out,HNf.out]
 go_wp2_with (go_at_call 69;(with_reducible refine aS (CU.out _) ?_))
 clear c0 c1 c2 c3 c4 c5 c6 c7
 apply wp_region_typed (C:=fun w'=>Below W1.heap.size W1 w') (n:=80) (m:=11) (l1:=[_,_,_,_,_,_,_,_,_,_,_]) (l2:=[])
 ·rfl
 ·rfl
 ·kernel_rfl
 ·rfl
 ·kernel_rfl
 ·exact ⟨rfl,rfl,rfl,ag _,fun _ _=>rfl⟩
 ·exact fun u u' h hb=>(by first | exact h.below hb | exact h.trans (hb.mono h.size))
 apply wpT_typed (slBlk_kept 9 9 WRD)
 ·intro w' hC hf;unfold Gives;clear hf hC
  go_wp2_with (go_at_call 70;(with_reducible refine (CW.out _).mono ?_);rintro e w2 ⟨g,rfl,hg,hB,hb2⟩)
  apply postT_mk rfl hb2;simp only [valAt,aV];exact ⟨g,rfl,hB⟩
 intro v28;(try simp only [Act.put,aZ])
 iterate 2 ((apply wpT_exact;· (intro w' hC hf;unfold Gives;obtain ⟨c0,c1,c2,c3,c4,c5,c6,c7⟩:=aM8 (HBK.out.below hC HBK.out.lt);clear hf hC;go_wp2_with (fail);apply postT_val rfl (Below.refl _ _);simp only [valAt,aV];exact rfl));(try simp only [Act.put,aZ]))
 apply wpT_typed (atCell_kept (.string wd))
 ·intro w' hC hf;unfold Gives
  obtain ⟨g,rfl,hB⟩:=hf.1 rfl
  have hcell:=(hB.cell 4).trans HWG.out
  have HCE:=aI hcell
  clear hf hC hcell hB
  go_wp2_with fail
  apply postT_mk rfl (Below.refl _ _);simp only [valAt,aV];exact atCell_of HCE.out
 intro v34;(try simp only [Act.put,aZ])
 apply wpT_exact
 ·intro w' hC hf;unfold Gives
  obtain ⟨a,rfl,hc⟩:=hf.1 rfl
  clear hf hC
  go_wp2_with fail
  apply postT_val rfl (Below.refl _ _);simp only [valAt,aV];exact rfl
 (try simp only [Act.put,aZ])
 iterate 6 ((apply wpT_exact;· (intro w' hC hf;unfold Gives;obtain ⟨c0,c1,c2,c3,c4,c5,c6,c7⟩:=aM8 (HBK.out.below hC HBK.out.lt);clear hf hC;go_wp2_with (fail);apply postT_val rfl (Below.refl _ _);simp only [valAt,aV];exact rfl));(try simp only [Act.put,aZ]))
 apply wpT_done
 intro w3 hC _
 replace HC:=aI hC
 clear hC
 obtain ⟨o0,ho0⟩:∃ o:ByteArray,(⟨#[10]⟩++wd++⟨#[32]⟩++nm:ByteArray)=o:=⟨_,rfl⟩
 rw [ho0]
 have ho0s:o0.size<=26:=by rw [<-ho0];simp only [ByteArray.size_append];rw [show (⟨#[10]⟩:ByteArray).size=1 from rfl,show (⟨#[32]⟩:ByteArray).size=1 from rfl];omega
 have HO0:=aI (show o0.data.toList=10::(Sx.wordsL.getD 4 []++32::Sx.bs nm) by rw [<-ho0,<-HWL.out];unfold Sx.bs;simp)
 clear ho0
 obtain ⟨c0,c1,c2,c3,c4,c5,c6,c7⟩:=aM8 (HBK.out.below HC.out HBK.out.lt)
 have CN:=aI (fun w=>rnamed_any of_ w)
 have hon:(Sx.orN of_).size<=12:=Sx.orN_sz h2 (by decide)
 obtain ⟨on,hon9⟩:=aX (Sx.orN of_)
 rw [hon9] at CN hon
 have HON:=aI hon9
 clear hon9
 obtain ⟨o1,ho1⟩:∃ o:ByteArray,((o0++⟨#[32]⟩++on):ByteArray)=o:=⟨_,rfl⟩
 have ho1s:o1.size<=39:=by rw [<-ho1];simp only [ByteArray.size_append];rw [show (⟨#[32]⟩:ByteArray).size=1 from rfl];omega
 have HO1:=aI ho1
 clear ho1
 have CA1:=aI (fun w=>and_any o1 lo w (by omega) (by omega))
 have CA2:=aI (fun w=>and_any (andS o1 lo) hi w (by have:=andS_size o1 lo (by omega);omega) (by omega))
 go_upto_region 7 with (first | (go_at_call 25;(with_reducible refine aS (CN.out _) ?_)) | (go_at_call 23;(with_reducible refine (CA1.out _).mono ?_);rintro e w5 ⟨rfl,hb5⟩;replace HC:=aT HC hb5;clear hb5;clear c0 c1 c2 c3 c4 c5 c6 c7;obtain ⟨c0,c1,c2,c3,c4,c5,c6,c7⟩:=aM8 (HBK.out.below HC.out HBK.out.lt)) | (go_at_call 23;(with_reducible refine (CA2.out _).mono ?_);rintro e w5 ⟨rfl,hb5⟩;replace HC:=aT HC hb5;clear hb5;clear c0 c1 c2 c3 c4 c5 c6 c7;obtain ⟨c0,c1,c2,c3,c4,c5,c6,c7⟩:=aM8 (HBK.out.below HC.out HBK.out.lt)))
 rw [HO1.out]
 go_wp2_with (first | (go_at_call 25;(with_reducible refine aS (CN.out _) ?_)) | (go_at_call 23;(with_reducible refine (CA1.out _).mono ?_);rintro e w5 ⟨rfl,hb5⟩;replace HC:=aT HC hb5;clear hb5;clear c0 c1 c2 c3 c4 c5 c6 c7;obtain ⟨c0,c1,c2,c3,c4,c5,c6,c7⟩:=aM8 (HBK.out.below HC.out HBK.out.lt)) | (go_at_call 23;(with_reducible refine (CA2.out _).mono ?_);rintro e w5 ⟨rfl,hb5⟩;replace HC:=aT HC hb5;clear hb5;clear c0 c1 c2 c3 c4 c5 c6 c7;obtain ⟨c0,c1,c2,c3,c4,c5,c6,c7⟩:=aM8 (HBK.out.below HC.out HBK.out.lt)))
 go_ret
 refine ⟨_,rfl,?_,HB.out.trans (HC.out.mono HB.out.size)⟩
 show (((andS (andS o1 lo) hi)):ByteArray).data.toList=10::Sx.lnJ (Sx.fldT ((nm,of_,up,4,lo,hi,ws,ns):Fld))
 rw [andS_list,andS_list]
 rw [<-HO1.out]
 have hx:=HO0.out
 have hy:=HON.out
 show _=10::(Sx.wordsL.getD 4 []++(Sx.bs nm::[Sx.orNone of_,Sx.num lo,Sx.num hi]).flatMap fun u=>32::u)
 rw [<-Sx.orN_list,hy]
 simp [hx,Sx.bs]
theorem rline_5 (nm of_ up:ByteArray) (lo hi:Int) (ws:List ByteArray) (ns:List Int) (us:List Value) (w:World) (h:Mem.rep [] w ((nm,of_,up,5,lo,hi,ws,ns):Fld) us) (hok:Sx.fldB ((nm,of_,up,5,lo,hi,ws,ns):Fld)=true):Calls Tryz.prog 24 #[.agg us.toArray] w (RLineP (Sx.fldT ((nm,of_,up,5,lo,hi,ws,ns):Fld)) w):=by
 have hf:=Sx.fldB_bd hok
 obtain ⟨A,c,B,d,rfl,s1,s2,a4,a5,a6,a1,a2,a3,b1,b2,e1,e2⟩:=rep_f8 h
 obtain ⟨h1,h2,h3,h4,h5,h6,h7,h8,h9,_⟩:=hf
 replace h1:nm.size<=12:=h1
 replace h2:of_.size<=12:=h2
 replace h3:up.size<=12:=h3
 replace h4:-1048576<=lo/\lo<=1048576:=h4
 replace h5:-1048576<=hi/\hi<=1048576:=h5
 replace h6:ws.length<=12:=h6
 replace h7:ns.length=ws.length:=h7
 replace h8:∀ s∈ws,s.size<=12:=h8
 replace h9:∀ n∈ns,0<=n/\n<=1048576:=h9
 show Calls Tryz.prog 24 #[.agg #[.string nm,.string of_,.string up,.int .i64 5,.int .i64 lo,.int .i64 hi,.slice A ws.length c,.slice B ns.length d]] w _
 obtain ⟨nw,hnw⟩:=aX ws.length
 have HNW:=aI hnw
 have HNN:=aI (h7.trans hnw)
 have HWF:=aI h8
 have HNF:=aI h9
 rw [h7,hnw]
 rw [hnw] at h6
 obtain ⟨W1,hW1⟩:=aX (w.alloc (.cells #[.string nm,.string of_,.string up,.int .i64 5,.int .i64 lo,.int .i64 hi,.slice A nw c,.slice B nw d] 52))
 have hb0:Below w.heap.size w W1:=by rw [<-hW1];exact aP _ _
 have HB:=aI hb0
 have hbk:Blk W1 w.heap.size 52 #[.string nm,.string of_,.string up,.int .i64 5,.int .i64 lo,.int .i64 hi,.slice A nw c,.slice B nw d]:=by rw [<-hW1];exact Blk.new w _ _
 have HBK:=aI hbk
 have HS1:=aI (s1.keep (Chg.of_below hb0))
 have HS2:=aI (s2.keep (Chg.of_below hb0))
 have HW1:=aI hW1
 have CU:=aI (fun w=>show Calls Tryz.prog 69 #[.int .i64 5] w fun e w'=>e=.returned (.tuple #[.bool true,.bool false,.bool true,.bool true,.bool false])/\w=w' from uses_any 5 w)
 have CW:=aI rwords_any
 obtain ⟨wd,hwd⟩:=aX (wdR 5)
 have hwl:wd.size<=12:=by rw [<-hwd];exact wdR_size 5
 have HWL:=aI (show wd.data.toList=Sx.wordsL.getD 5 [] by rw [<-hwd];exact wdR_list 5)
 have HWG:=aI (show WRD[5]?=some (.string wd) by rw [<-hwd];exact wrd_get 5 (by decide))
 obtain ⟨Nf,hNf⟩:=aX w.heap.size
 have HNf:=aI hNf
 rw [hNf] at HBK
 have HC:=aI (Below.refl W1.heap.size W1)
 obtain ⟨c0,c1,c2,c3,c4,c5,c6,c7⟩:=aM8 (HBK.out.below HC.out HBK.out.lt)
 clear h7 h8 h9 hnw h s1 s2 a1 a2 a3 a4 a5 a6 b1 b2 e1 e2 hbk hW1 hb0 hwd hok hNf
 go_enter Tryz.func24,Tryz.ntmps24
 go_upto_region 1 with fail
 rw [HW1.out,HNf.out]
 go_wp2_with (go_at_call 69;(with_reducible refine aS (CU.out _) ?_))
 clear c0 c1 c2 c3 c4 c5 c6 c7
 apply wp_region_typed (C:=fun w'=>Below W1.heap.size W1 w') (n:=80) (m:=11) (l1:=[_,_,_,_,_,_,_,_,_,_,_]) (l2:=[])
 ·rfl
 ·rfl
 ·kernel_rfl
 ·rfl
 ·kernel_rfl
 ·exact ⟨rfl,rfl,rfl,ag _,fun _ _=>rfl⟩
 ·exact fun u u' h hb=>(by first | exact h.below hb | exact h.trans (hb.mono h.size))
 apply wpT_typed (slBlk_kept 9 9 WRD)
 ·intro w' hC hf;unfold Gives;clear hf hC
  go_wp2_with (go_at_call 70;(with_reducible refine (CW.out _).mono ?_);rintro e w2 ⟨g,rfl,hg,hB,hb2⟩)
  apply postT_mk rfl hb2;simp only [valAt,aV];exact ⟨g,rfl,hB⟩
 intro v28;(try simp only [Act.put,aZ])
 iterate 2 ((apply wpT_exact;· (intro w' hC hf;unfold Gives;obtain ⟨c0,c1,c2,c3,c4,c5,c6,c7⟩:=aM8 (HBK.out.below hC HBK.out.lt);clear hf hC;go_wp2_with (fail);apply postT_val rfl (Below.refl _ _);simp only [valAt,aV];exact rfl));(try simp only [Act.put,aZ]))
 apply wpT_typed (atCell_kept (.string wd))
 ·intro w' hC hf;unfold Gives
  obtain ⟨g,rfl,hB⟩:=hf.1 rfl
  have hcell:=(hB.cell 5).trans HWG.out
  have HCE:=aI hcell
  clear hf hC hcell hB
  go_wp2_with fail
  apply postT_mk rfl (Below.refl _ _);simp only [valAt,aV];exact atCell_of HCE.out
 intro v34;(try simp only [Act.put,aZ])
 apply wpT_exact
 ·intro w' hC hf;unfold Gives
  obtain ⟨a,rfl,hc⟩:=hf.1 rfl
  clear hf hC
  go_wp2_with fail
  apply postT_val rfl (Below.refl _ _);simp only [valAt,aV];exact rfl
 (try simp only [Act.put,aZ])
 iterate 6 ((apply wpT_exact;· (intro w' hC hf;unfold Gives;obtain ⟨c0,c1,c2,c3,c4,c5,c6,c7⟩:=aM8 (HBK.out.below hC HBK.out.lt);clear hf hC;go_wp2_with (fail);apply postT_val rfl (Below.refl _ _);simp only [valAt,aV];exact rfl));(try simp only [Act.put,aZ]))
 apply wpT_done
 intro w3 hC _
 replace HC:=aI hC
 clear hC
 obtain ⟨o0,ho0⟩:∃ o:ByteArray,(⟨#[10]⟩++wd++⟨#[32]⟩++nm:ByteArray)=o:=⟨_,rfl⟩
 rw [ho0]
 have ho0s:o0.size<=26:=by rw [<-ho0];simp only [ByteArray.size_append];rw [show (⟨#[10]⟩:ByteArray).size=1 from rfl,show (⟨#[32]⟩:ByteArray).size=1 from rfl];omega
 have HO0:=aI (show o0.data.toList=10::(Sx.wordsL.getD 5 []++32::Sx.bs nm) by rw [<-ho0,<-HWL.out];unfold Sx.bs;simp)
 clear ho0
 obtain ⟨c0,c1,c2,c3,c4,c5,c6,c7⟩:=aM8 (HBK.out.below HC.out HBK.out.lt)
 have CN:=aI (fun w=>rnamed_any of_ w)
 have hon:(Sx.orN of_).size<=12:=Sx.orN_sz h2 (by decide)
 obtain ⟨on,hon9⟩:=aX (Sx.orN of_)
 rw [hon9] at CN hon
 have HON:=aI hon9
 clear hon9
 obtain ⟨o1,ho1⟩:∃ o:ByteArray,((o0++⟨#[32]⟩++on):ByteArray)=o:=⟨_,rfl⟩
 have ho1s:o1.size<=39:=by rw [<-ho1];simp only [ByteArray.size_append];rw [show (⟨#[32]⟩:ByteArray).size=1 from rfl];omega
 have HO1:=aI ho1
 clear ho1
 have CA1:=aI (fun w=>and_any o1 lo w (by omega) (by omega))
 have CA2:=aI (fun w=>and_any (andS o1 lo) hi w (by have:=andS_size o1 lo (by omega);omega) (by omega))
 go_upto_region 7 with (first | (go_at_call 25;(with_reducible refine aS (CN.out _) ?_)) | (go_at_call 23;(with_reducible refine (CA1.out _).mono ?_);rintro e w5 ⟨rfl,hb5⟩;replace HC:=aT HC hb5;clear hb5;clear c0 c1 c2 c3 c4 c5 c6 c7;obtain ⟨c0,c1,c2,c3,c4,c5,c6,c7⟩:=aM8 (HBK.out.below HC.out HBK.out.lt)) | (go_at_call 23;(with_reducible refine (CA2.out _).mono ?_);rintro e w5 ⟨rfl,hb5⟩;replace HC:=aT HC hb5;clear hb5;clear c0 c1 c2 c3 c4 c5 c6 c7;obtain ⟨c0,c1,c2,c3,c4,c5,c6,c7⟩:=aM8 (HBK.out.below HC.out HBK.out.lt)))
 rw [HO1.out]
 go_wp2_with (first | (go_at_call 25;(with_reducible refine aS (CN.out _) ?_)) | (go_at_call 23;(with_reducible refine (CA1.out _).mono ?_);rintro e w5 ⟨rfl,hb5⟩;replace HC:=aT HC hb5;clear hb5;clear c0 c1 c2 c3 c4 c5 c6 c7;obtain ⟨c0,c1,c2,c3,c4,c5,c6,c7⟩:=aM8 (HBK.out.below HC.out HBK.out.lt)) | (go_at_call 23;(with_reducible refine (CA2.out _).mono ?_);rintro e w5 ⟨rfl,hb5⟩;replace HC:=aT HC hb5;clear hb5;clear c0 c1 c2 c3 c4 c5 c6 c7;obtain ⟨c0,c1,c2,c3,c4,c5,c6,c7⟩:=aM8 (HBK.out.below HC.out HBK.out.lt)))
 go_ret
 refine ⟨_,rfl,?_,HB.out.trans (HC.out.mono HB.out.size)⟩
 show (((andS (andS o1 lo) hi)):ByteArray).data.toList=10::Sx.lnJ (Sx.fldT ((nm,of_,up,5,lo,hi,ws,ns):Fld))
 rw [andS_list,andS_list]
 rw [<-HO1.out]
 have hx:=HO0.out
 have hy:=HON.out
 show _=10::(Sx.wordsL.getD 5 []++(Sx.bs nm::[Sx.orNone of_,Sx.num lo,Sx.num hi]).flatMap fun u=>32::u)
 rw [<-Sx.orN_list,hy]
 simp [hx,Sx.bs]
theorem rline_3 (nm of_ up:ByteArray) (lo hi:Int) (ws:List ByteArray) (ns:List Int) (us:List Value) (w:World) (h:Mem.rep [] w ((nm,of_,up,3,lo,hi,ws,ns):Fld) us) (hok:Sx.fldB ((nm,of_,up,3,lo,hi,ws,ns):Fld)=true):Calls Tryz.prog 24 #[.agg us.toArray] w (RLineP (Sx.fldT ((nm,of_,up,3,lo,hi,ws,ns):Fld)) w):=by
 have hf:=Sx.fldB_bd hok
 obtain ⟨A,c,B,d,rfl,s1,s2,a4,a5,a6,a1,a2,a3,b1,b2,e1,e2⟩:=rep_f8 h
 obtain ⟨h1,h2,h3,h4,h5,h6,h7,h8,h9,_⟩:=hf
 replace h1:nm.size<=12:=h1
 replace h2:of_.size<=12:=h2
 replace h3:up.size<=12:=h3
 replace h4:-1048576<=lo/\lo<=1048576:=h4
 replace h5:-1048576<=hi/\hi<=1048576:=h5
 replace h6:ws.length<=12:=h6
 replace h7:ns.length=ws.length:=h7
 replace h8:∀ s∈ws,s.size<=12:=h8
 replace h9:∀ n∈ns,0<=n/\n<=1048576:=h9
 show Calls Tryz.prog 24 #[.agg #[.string nm,.string of_,.string up,.int .i64 3,.int .i64 lo,.int .i64 hi,.slice A ws.length c,.slice B ns.length d]] w _
 obtain ⟨nw,hnw⟩:=aX ws.length
 have HNW:=aI hnw
 have HNN:=aI (h7.trans hnw)
 have HWF:=aI h8
 have HNF:=aI h9
 rw [h7,hnw]
 rw [hnw] at h6
 obtain ⟨W1,hW1⟩:=aX (w.alloc (.cells #[.string nm,.string of_,.string up,.int .i64 3,.int .i64 lo,.int .i64 hi,.slice A nw c,.slice B nw d] 52))
 have hb0:Below w.heap.size w W1:=by rw [<-hW1];exact aP _ _
 have HB:=aI hb0
 have hbk:Blk W1 w.heap.size 52 #[.string nm,.string of_,.string up,.int .i64 3,.int .i64 lo,.int .i64 hi,.slice A nw c,.slice B nw d]:=by rw [<-hW1];exact Blk.new w _ _
 have HBK:=aI hbk
 have HS1:=aI (s1.keep (Chg.of_below hb0))
 have HS2:=aI (s2.keep (Chg.of_below hb0))
 have HW1:=aI hW1
 have CU:=aI (fun w=>show Calls Tryz.prog 69 #[.int .i64 3] w fun e w'=>e=.returned (.tuple #[.bool false,.bool false,.bool false,.bool false,.bool true])/\w=w' from uses_any 3 w)
 have CW:=aI rwords_any
 obtain ⟨wd,hwd⟩:=aX (wdR 3)
 have hwl:wd.size<=12:=by rw [<-hwd];exact wdR_size 3
 have HWL:=aI (show wd.data.toList=Sx.wordsL.getD 3 [] by rw [<-hwd];exact wdR_list 3)
 have HWG:=aI (show WRD[3]?=some (.string wd) by rw [<-hwd];exact wrd_get 3 (by decide))
 obtain ⟨Nf,hNf⟩:=aX w.heap.size
 have HNf:=aI hNf
 rw [hNf] at HBK
 have HC:=aI (Below.refl W1.heap.size W1)
 obtain ⟨c0,c1,c2,c3,c4,c5,c6,c7⟩:=aM8 (HBK.out.below HC.out HBK.out.lt)
 clear h7 h8 h9 hnw h s1 s2 a1 a2 a3 a4 a5 a6 b1 b2 e1 e2 hbk hW1 hb0 hwd hok hNf
 go_enter Tryz.func24,Tryz.ntmps24
 go_upto_region 1 with fail
 rw [HW1.out,HNf.out]
 go_wp2_with (go_at_call 69;(with_reducible refine aS (CU.out _) ?_))
 clear c0 c1 c2 c3 c4 c5 c6 c7
 apply wp_region_typed (C:=fun w'=>Below W1.heap.size W1 w') (n:=80) (m:=11) (l1:=[_,_,_,_,_,_,_,_,_,_,_]) (l2:=[])
 ·rfl
 ·rfl
 ·kernel_rfl
 ·rfl
 ·kernel_rfl
 ·exact ⟨rfl,rfl,rfl,ag _,fun _ _=>rfl⟩
 ·exact fun u u' h hb=>(by first | exact h.below hb | exact h.trans (hb.mono h.size))
 apply wpT_typed (slBlk_kept 9 9 WRD)
 ·intro w' hC hf;unfold Gives;clear hf hC
  go_wp2_with (go_at_call 70;(with_reducible refine (CW.out _).mono ?_);rintro e w2 ⟨g,rfl,hg,hB,hb2⟩)
  apply postT_mk rfl hb2;simp only [valAt,aV];exact ⟨g,rfl,hB⟩
 intro v28;(try simp only [Act.put,aZ])
 iterate 2 ((apply wpT_exact;· (intro w' hC hf;unfold Gives;obtain ⟨c0,c1,c2,c3,c4,c5,c6,c7⟩:=aM8 (HBK.out.below hC HBK.out.lt);clear hf hC;go_wp2_with (fail);apply postT_val rfl (Below.refl _ _);simp only [valAt,aV];exact rfl));(try simp only [Act.put,aZ]))
 apply wpT_typed (atCell_kept (.string wd))
 ·intro w' hC hf;unfold Gives
  obtain ⟨g,rfl,hB⟩:=hf.1 rfl
  have hcell:=(hB.cell 3).trans HWG.out
  have HCE:=aI hcell
  clear hf hC hcell hB
  go_wp2_with fail
  apply postT_mk rfl (Below.refl _ _);simp only [valAt,aV];exact atCell_of HCE.out
 intro v34;(try simp only [Act.put,aZ])
 apply wpT_exact
 ·intro w' hC hf;unfold Gives
  obtain ⟨a,rfl,hc⟩:=hf.1 rfl
  clear hf hC
  go_wp2_with fail
  apply postT_val rfl (Below.refl _ _);simp only [valAt,aV];exact rfl
 (try simp only [Act.put,aZ])
 iterate 6 ((apply wpT_exact;· (intro w' hC hf;unfold Gives;obtain ⟨c0,c1,c2,c3,c4,c5,c6,c7⟩:=aM8 (HBK.out.below hC HBK.out.lt);clear hf hC;go_wp2_with (fail);apply postT_val rfl (Below.refl _ _);simp only [valAt,aV];exact rfl));(try simp only [Act.put,aZ]))
 apply wpT_done
 intro w3 hC _
 replace HC:=aI hC
 clear hC
 obtain ⟨o0,ho0⟩:∃ o:ByteArray,(⟨#[10]⟩++wd++⟨#[32]⟩++nm:ByteArray)=o:=⟨_,rfl⟩
 rw [ho0]
 have ho0s:o0.size<=26:=by rw [<-ho0];simp only [ByteArray.size_append];rw [show (⟨#[10]⟩:ByteArray).size=1 from rfl,show (⟨#[32]⟩:ByteArray).size=1 from rfl];omega
 have HO0:=aI (show o0.data.toList=10::(Sx.wordsL.getD 3 []++32::Sx.bs nm) by rw [<-ho0,<-HWL.out];unfold Sx.bs;simp)
 clear ho0
 obtain ⟨c0,c1,c2,c3,c4,c5,c6,c7⟩:=aM8 (HBK.out.below HC.out HBK.out.lt)
 have CA:=aI (fun w=>and_any o0 (nw:Int) w (by omega) (by omega))
 have hos:=andS_size o0 (nw:Int) (by omega)
 have HO1:=aI (andS_list o0 (nw:Int))
 obtain ⟨o1,ho1⟩:∃ o:ByteArray,andS o0 (nw:Int)=o:=⟨_,rfl⟩
 rw [ho1] at CA hos HO1
 clear ho1
 go_wp2_with (go_at_call 23;(with_reducible refine (CA.out _).mono ?_);rintro e w5 ⟨rfl,hb5⟩;replace HC:=aT HC hb5;clear hb5;clear c0 c1 c2 c3 c4 c5 c6 c7;obtain ⟨c0,c1,c2,c3,c4,c5,c6,c7⟩:=aM8 (HBK.out.below HC.out HBK.out.lt))
 clear c0 c1 c2 c3 c4 c5 c6 c7
 go_loopg [8,9] nw (fun r s i wr=>∃ (j:Nat) (t:ByteArray),j+r=nw/\i=.int .i64 j/\s=.string t/\t.data.toList=o1.data.toList++((Sx.pickAv (ws.take j) (ns.take j)).flatMap fun a=>32::a.t)/\t.size<=50+30*j/\Below W1.heap.size W1 wr)
 case atStart=>exact ⟨0,o1,by omega,rfl,rfl,by simp [Sx.pickAv],by omega,HC.out⟩
 case round =>
  clear HC
  obtain ⟨j,t,hj,rfl,rfl,ht,hts,hb⟩:=hrel
  obtain ⟨wo,rfl⟩:=aY wr
  have HC:=aI hb
  have HT:=aI ht
  clear hb ht
  obtain ⟨c0,c1,c2,c3,c4,c5,c6,c7⟩:=aM8 (HBK.out.below HC.out HBK.out.lt)
  by_cases hlt:j < nw
  ·have hjp:j < ws.length:=by rw [HNW.out];exact hlt
   have hjq:j < ns.length:=by rw [HNN.out];exact hlt
   have j0:(0:Int)<=(j:Int):=Int.natCast_nonneg _
   have j1:(j:Int) < (nw:Int):=by omega
   obtain ⟨b,o,rfl,_,d0,_⟩:=str_at (HS1.out.keep (Chg.of_below HC.out)) j hjp
   obtain ⟨b2,o2,rfl,_,d1,_⟩:=int_at (HS2.out.keep (Chg.of_below HC.out)) j hjq
   have hx:=HWF.out _ (List.getElem_mem hjp)
   have hy:=HNF.out _ (List.getElem_mem hjq)
   have HPS:=aI (Sx.pickAv_snoc ws ns j hjp hjq)
   obtain ⟨x0,hx0⟩:=aX (ws[j])
   obtain ⟨y0,hy0⟩:=aX (ns[j])
   rw [hx0] at d0 hx HPS
   rw [hy0] at d1 hy HPS
   obtain ⟨o2s,ho2⟩:∃ o:ByteArray,(t++⟨#[32]⟩++x0:ByteArray)=o:=⟨_,rfl⟩
   have ho2s:o2s.size<=t.size+13:=by rw [<-ho2];simp only [ByteArray.size_append];rw [show (⟨#[32]⟩:ByteArray).size=1 from rfl];omega
   have HO2:=aI ho2
   have CA2:=aI (fun w=>and_any o2s y0 w (by omega) (by omega))
   have has:=andS_size o2s y0 (by omega)
   have HAS:=aI (andS_list o2s y0)
   clear hx0 hy0 ho2
   have HD0:=aI (fun (W:World) (hb:Below wo.heap.size wo W)=>(hb.cell (World.block_lt_of_cell? _ _ d0)).trans d0)
   have HD1:=aI (fun (W:World) (hb:Below wo.heap.size wo W)=>(hb.cell (World.block_lt_of_cell? _ _ d1)).trans d1)
   have HBW:=aI (HBK.out.below HC.out HBK.out.lt)
   go_wp2_with fail
   clear c0 c1 c2 c3 c4 c5 c6 c7
   clear d0 d1
   apply wp_region_typed (C:=fun w'=>Below wo.heap.size wo w') (n:=80) (m:=15) (l1:=[_,_,_,_,_,_,_,_,_,_,_,_,_,_,_]) (l2:=[])
   ·rfl
   ·rfl
   ·kernel_rfl
   ·rfl
   ·kernel_rfl
   ·exact ⟨rfl,rfl,rfl,ag _,fun _ _=>rfl⟩
   ·exact fun u u' h hb=>(by first | exact h.below hb | exact h.trans (hb.mono h.size))
   iterate 7 ((apply wpT_exact;· (intro w' hC hf;unfold Gives;have hbk:=HBW.out.below hC HBW.out.lt;have c6:=hbk.cell 6;have c7:=hbk.cell 7;simp at c6 c7;have d0:=HD0.out _ hC;have d1:=HD1.out _ hC;clear hbk;clear hf hC;go_wp2_with (fail);apply postT_val rfl (Below.refl _ _);simp only [valAt,aV];exact rfl));(try simp only [Act.put,aZ]))
   (apply wpT_exact (c:=.string o2s);· (intro w' hC hf;unfold Gives;clear hf hC;go_wp2_with fail;apply postT_val rfl (Below.refl _ _);simp only [valAt,aV];rw [<-HO2.out]));(try simp only [Act.put,aZ])
   iterate 5 ((apply wpT_exact;· (intro w' hC hf;unfold Gives;have hbk:=HBW.out.below hC HBW.out.lt;have c6:=hbk.cell 6;have c7:=hbk.cell 7;simp at c6 c7;have d0:=HD0.out _ hC;have d1:=HD1.out _ hC;clear hbk;clear hf hC;go_wp2_with (fail);apply postT_val rfl (Below.refl _ _);simp only [valAt,aV];exact rfl));(try simp only [Act.put,aZ]))
   (apply wpT_exact;· (intro w' hC hf;unfold Gives;clear hf hC;go_wp2_with (go_at_call 23;(with_reducible refine (CA2.out _).mono ?_);rintro e w5 ⟨rfl,hb5⟩);apply postT_val rfl (by assumption);simp only [valAt,aV];exact rfl));(try simp only [Act.put,aZ])
   (apply wpT_exact;· (intro w' hC hf;unfold Gives;clear hf hC;go_wp2_with (fail);apply postT_val rfl (Below.refl _ _);simp only [valAt,aV];exact rfl));(try simp only [Act.put,aZ])
   apply wpT_done
   intro w8 hC _
   replace HC:=aT HC hC
   clear hC
   go_wp2_with fail
   go_roundg (gk - 1)
   case measure=>omega
   case rel =>
    refine ⟨j+1,_,by omega,by go_num,rfl,?_,by omega,HC.out⟩
    rw [HAS.out,<-HO2.out,<-HPS.out]
    simp [HT.out,Sx.Av.t,Sx.bs]
  ·have j1:¬ (j:Int) < (nw:Int):=by omega
   have e1:=HT.out
   rw [List.take_of_length_le (by rw [HNW.out];omega),List.take_of_length_le (by rw [HNN.out];omega),HO1.out,HO0.out] at e1
   replace HT:=aI e1
   clear e1
   go_wp2_with fail
   go_ret
   refine ⟨_,rfl,?_,HB.out.trans (HC.out.mono HB.out.size)⟩
   have e1:=HT.out
   rw [e1]
   show _=10::(Sx.wordsL.getD 3 []++(Sx.bs nm::Sx.num (ws.length:Int)::Sx.picksT ws ns).flatMap fun u=>32::u)
   rw [HNW.out,<-Sx.pickAv_t,List.flatMap_cons,List.flatMap_cons,List.flatMap_map]
   simp
theorem rline_any (f:Fld) (us:List Value) (w:World) (h:Mem.rep [] w f us) (hf:Sx.fldB f=true):Calls Tryz.prog 24 #[.agg us.toArray] w (RLineP (Sx.fldT f) w):=by
 have hb:=Sx.fldB_bd hf
 obtain ⟨nm,of_,up,kd,lo,hi,ws,ns⟩:=f
 obtain ⟨k,hk,hkd⟩:=hb.kd
 obtain rfl:kd=(k:Int):=hkd
 rcases (show k=0∨k=1∨k=2∨k=3∨k=4∨k=5∨k=6∨k=7∨k=8 by omega) with rfl | rfl | rfl | rfl | rfl | rfl | rfl | rfl | rfl
 ·exact rline_0 nm of_ up lo hi ws ns us w h hf
 ·exact rline_1 nm of_ up lo hi ws ns us w h hf
 ·exact rline_2 nm of_ up lo hi ws ns us w h hf
 ·exact rline_3 nm of_ up lo hi ws ns us w h hf
 ·exact rline_4 nm of_ up lo hi ws ns us w h hf
 ·exact rline_5 nm of_ up lo hi ws ns us w h hf
 ·exact rline_6 nm of_ up lo hi ws ns us w h hf
 ·exact rline_7 nm of_ up lo hi ws ns us w h hf
 ·exact rline_8 nm of_ up lo hi ws ns us w h hf
end
end Go.Proofs.YtmplaikgbeeikaaGreatDoor
