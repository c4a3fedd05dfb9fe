/- Parts of the proof, joined: SxB0, SyL0, SyL1, SyMet, SyMetV. -/
import Derived.Test.YtobcnhmhgoccnaaGreatDoorV19
import Derived.Test.YtobcnhmhgoccnaaGreatDoorV25
import Derived.Test.YtobcnhmhgoccnaaGreatDoorV26
import Derived.Test.YtobcnhmhgoccnaaGreatDoorCards
import Derived.Test.YtobcnhmhgoccnaaGreatDoorTie
import Derived.Lib.SmallJoins
import Derived.LaidMore
import Derived.Lay
import Derived.Stop.LaidErr
import Derived.Deep.DeepWitnessRowRef
set_option maxRecDepth 100000
set_option maxHeartbeats 16000000
set_option linter.unusedVariables false
set_option linter.unusedSimpArgs false
set_option linter.unusedSectionVars false
namespace Go.Proofs.YtobcnhmhgoccnaaGreatDoor
open Go Go.RowKit
section
def GSchP (w:World) (e:Ending) (w':World):Prop:=∃(x:Sch) (A:Option Addr) (c:Nat) (B:Option Addr) (d:Nat) (C:Option Addr) (f nk nl nr:Nat),e=.returned (.agg #[.int .i64 x.1,.slice A nk c,.slice B nl d,.slice C nr f])/\Sx.valid x=0/\Mem.rep [] w' x [.int .i64 x.1,.slice A nk c,.slice B nl d,.slice C nr f]/\Below w.heap.size w w'
theorem gsch_any (l:List Int) (A:Option Addr) (c:Nat) (w:World) (hs:SlAt [] w A l) (hc:l.length<=c) (hm:c<=9223372036854775807):Calls Tryz.prog 5 #[.slice A l.length c] w (GSchP w):=by
 refine (gschema_any l A c w hs hc hm).mono ?_
 rintro e w' ⟨x,v,rfl,hx,⟨us,rfl,hr⟩,hb⟩
 obtain ⟨A1,c1,A2,c2,A3,c3,rfl,_⟩:=rep_sch hr
 exact ⟨x,A1,c1,A2,c2,A3,c3,_,_,_,rfl,hx.valid,hr,hb⟩
end
section
theorem eqD_run (l:List UInt8) (hl:l.length=16) (w:World):(Op.equalIn 10000 38 (.agg (byteVals l).toArray) (.agg (byteVals l).toArray)).run Tryz.prog w=.ok true w:=by
 obtain ⟨i,hi⟩:∃i,Tryz.prog.info? 5=some i:=⟨_,rfl⟩
 rw [show (10000:Nat)=9999+1 from rfl,run_equalIn_array w 9999 _ _ Tryz.underlying38 hi]
 have h2:(isAgg 5).run Tryz.prog w=.ok false w:=by unfold isAgg;rw [Sem.run_bind,run_underlying Tryz.underlying5 w];rfl
 have hc:Tryz.prog.cellsOf 5=1:=by kernel_rfl
 rw [hc]
 have key:∀is:List Nat,(∀j∈is,j < 16)->(Op.eqItems 9999 5 1 (byteVals l).toArray (byteVals l).toArray is).run Tryz.prog w=.ok true w:=by
  intro is
  induction is with
  | nil=>intro _;rfl
  | cons j is ih =>
   intro h
   have hj:=h j (.head _)
   have h3:(byteVals l)[j]?=some (.int .u8 ((l[j]'(by omega)).toNat:Int)):=by unfold byteVals;rw [List.getElem?_map,zp (by omega)];rfl
   have hp:(part 5 (byteVals l).toArray (j*1)).run Tryz.prog w=.ok (.int .u8 ((l[j]'(by omega)).toNat:Int)) w:=by
    unfold part
    rw [Sem.run_bind,h2]
    simp [h3]
   have he:=run_equalIn_int (P:=Tryz.prog) w 9998 5 .u8 .u8 ((l[j]'(by omega)).toNat:Int) ((l[j]'(by omega)).toNat:Int) Tryz.underlying5
   rw [beq_self_eq_true] at he
   simp only [Op.eqItems,Sem.run_bind,hp,Result.andThen_ok]
   rw [he]
   simp only [Result.andThen_ok,Bool.not_true,Bool.false_eq_true,if_false]
   exact ih λk hk=>h k (.tail _ hk)
 exact key _ λj hj=>List.mem_range.1 hj
def IsSp (v:Value) (w:World):Prop:=∃(z:Sch) (us:List Value),v=.agg us.toArray/\Mem.rep [] w z us/\Sx.WB 2 z
theorem isSp_kept:Kept IsSp:=λ_ _ _ ⟨z,us,h1,h2,h3⟩ hb=>⟨z,us,h1,Mem.keep h2 (za hb),h3⟩
theorem rep_none (w:World):Mem.rep [] w Sx.noSch [.int .i64 0,.slice none 0 0,.slice none 0 0,.slice none 0 0] :=
 ⟨[.int .i64 0],_,rfl,⟨rfl,by unfold inI;decide⟩,[.slice none 0 0],_,rfl,⟨none,0,rfl,ag _,by decide,.inl rfl⟩,[.slice none 0 0],_,rfl,⟨none,0,rfl,ag _,by decide,.inl rfl⟩,⟨none,0,rfl,ag _,by decide,.inl rfl⟩⟩
theorem law_valid (l:List Int) (A:Option Addr) (c:Nat) (at_ how by_:Int) (w:World) (he:SEnv w) (hk:KEnv w) (hrk:RKEnv w) (hl:SlAt [] w A l) (hc:l.length<=c) (hc2:c<=9223372036854775807) (h1:inI at_) (h2:inI how) (h3:inI by_) :
  Calls Tryz.prog 3 #[.slice A l.length c,.int .i64 at_,.int .i64 how,.int .i64 by_] w λe w'=>e=.returned (.bool true)/\Below w.heap.size w w':=by
 have CG:=aI (gsch_any l A c w hl hc hc2)
 have CS0:=aI (λ(x:Sch) us W (h:Mem.rep [] W x us) (OB:Sx.WB 0 x)=>spoilt_any (cb:=0) (by decide) x us W h OB at_ how by_ h1 h2 h3)
 have e8:wrap64 (how.tdiv 8)=how.tdiv 8:=by
  have:=tdiv_in how 8 h2.1 h2.2 (by omega);unfold wrap64;omega
 have CS1:=aI (λ(x:Sch) us W (h:Mem.rep [] W x us) (OB:Sx.WB 1 x)=>spoilt_any (cb:=1) (by decide) x us W h OB by_ (how.tdiv 8) at_ h3 (tdiv_in how 8 h2.1 h2.2 (by omega)) h1)
 have HENV:=aI (λ(W:World) (h:Below w.heap.size w W)=>show SEnv W/\KEnv W/\RKEnv W from ⟨he.to h,hk.to h,hrk.to h⟩)
 clear hl hc hc2 h1 h2 h3
 go_enter Tryz.func3,Tryz.ntmps3
 go_upto_region 2 with (go_at_call 5;refine CG.out.mono ?_;rintro e w1 ⟨x,A1,c1,B1,d1,C1,f1,nk,nl,nr,rfl,hv,hr,hb⟩;have HV:=aI hv;have HR:=aI hr;have HB:=aI hb;clear hv hr hb)
 have hOBx:Sx.WB 0 x:=(Sx.okB_bd (valid_ok HV.out)).wb
 have HOBx:=aI hOBx
 have T:=aI ((((held0 w [] (λ_ h=>by cases h)).below HB.out).add (keeps_rep x _) HR.out).made #[.int .i64 x.1,.slice A1 nk c1,.slice B1 nl d1,.slice C1 nr f1] 27 rfl)
 clear HB HR hOBx
 generalize w1.alloc (.cells #[.int .i64 x.1,.slice A1 nk c1,.slice B1 nl d1,.slice C1 nr f1] 27)=W1 at T ⊢
 generalize w1.heap.size=N9 at T ⊢
 have q:=(T.out.fact (.head _)).2;obtain ⟨q0,q1,q2,q3⟩:=aN4 q.cell;simp at q0 q1 q2 q3;clear q
 go_upto_region 3 with (go_at_call 6;refine (CS0.out x _ _ (T.out.fact (.tail _ (.head _))) HOBx.out).mono ?_;rintro e w2 ⟨y,us,rfl,hr,hOBy,hb⟩;obtain ⟨A2,c2,B2,d2,C2,f2,rfl,-⟩:=rep_sch hr;have HR:=aI hr;have HOBy:=aI hOBy;have HB:=aI hb;clear hr hOBy hb)
 obtain ⟨mk,hmk⟩:=aX ((Sc.kinds y).length)
 obtain ⟨ml,hml⟩:=aX y.2.2.1.length
 obtain ⟨mr,hmr⟩:=aX y.2.2.2.length
 rw [hmk,hml,hmr] at HR ⊢
 clear q0 q1 q2 q3 hmk hml hmr
 have T2:=aI (((T.out.below HB.out).add (keeps_rep y _) HR.out).made #[.int .i64 y.1,.slice A2 mk c2,.slice B2 ml d2,.slice C2 mr f2] 27 rfl)
 clear HB HR T
 generalize w2.alloc (.cells #[.int .i64 y.1,.slice A2 mk c2,.slice B2 ml d2,.slice C2 mr f2] 27)=W2 at T2 ⊢
 generalize w2.heap.size=N10 at T2 ⊢
 have T:=T2
 clear T2
 have hb1:=below_drewS W2
 apply zy (C:=λw'=>Below W2.heap.size W2 w') (n:=88) (m:=9) (l1:=[_,_,_,_,_,_,_,_,_]) (l2:=[_,_]);rfl;rfl;kernel_rfl;rfl;kernel_rfl;exact hb1;exact aR
 iterate 7 ((apply aJ;·(intro w' hC hf;have q:=((T.out.below hC).fact (.head _)).2;obtain ⟨q0,q1,q2,q3⟩:=aN4 q.cell;simp at q0 q1 q2 q3;clear q;have p:=((T.out.below hC).fact (.tail _ (.tail _ (.head _)))).2;obtain ⟨p0,p1,p2,p3⟩:=aN4 p.cell;simp at p0 p1 p2 p3;clear p;clear hf hC;go_wp2_with (fail);apply aO;simp only [zC];exact rfl));(try simp only [zn]))
 apply zF isSp_kept
 .intro w' hC hf;unfold Gives
  have HR:=aI ((T.out.below hC).fact (.tail _ (.head _)))
  clear hf hC
  go_wp2_with (go_at_call 6;refine (CS1.out y _ _ HR.out HOBy.out).mono ?_;rintro e w3 ⟨z,us,rfl,hr,hOBz,hb⟩;have HRz:=aI hr;have HOBz:=aI hOBz;have HBL:=aI hb;clear hr hOBz hb)
  apply zJ rfl HBL.out;simp only [zC];exact ⟨z,us,rfl,HRz.out,HOBz.out⟩
 intro v27;(try simp only [zn])
 (apply aJ;·(intro w' hC hf;clear hf hC;go_wp2_with (fail);apply aO;simp only [zC];exact rfl));(try simp only [zn])
 apply wpT_done
 intro w4 hC hall
 obtain ⟨z,us,rfl,hrz,hOBz⟩:=hall.1
 obtain ⟨A3,c3,B3,d3,C3,f3,rfl,-⟩:=rep_sch hrz
 have hb4:Below w4.heap.size w4 (w4.alloc (.cells #[.int .i64 x.1,.slice A1 nk c1,.slice B1 nl d1,.slice C1 nr f1,.int .i64 y.1,.slice A2 mk c2,.slice B2 ml d2,.slice C2 mr f2,.int .i64 z.1,.slice A3 (Sc.kinds z).length c3,.slice B3 z.2.2.1.length d3,.slice C3 z.2.2.2.length f3,.int .i64 0,.slice none 0 0,.slice none 0 0,.slice none 0 0] 27)):=(zf _ _).alloc (ag _) _
 have hB:Blk (w4.alloc (.cells #[.int .i64 x.1,.slice A1 nk c1,.slice B1 nl d1,.slice C1 nr f1,.int .i64 y.1,.slice A2 mk c2,.slice B2 ml d2,.slice C2 mr f2,.int .i64 z.1,.slice A3 (Sc.kinds z).length c3,.slice B3 z.2.2.1.length d3,.slice C3 z.2.2.2.length f3,.int .i64 0,.slice none 0 0,.slice none 0 0,.slice none 0 0] 27)) w4.heap.size 27 #[.int .i64 x.1,.slice A1 nk c1,.slice B1 nl d1,.slice C1 nr f1,.int .i64 y.1,.slice A2 mk c2,.slice B2 ml d2,.slice C2 mr f2,.int .i64 z.1,.slice A3 (Sc.kinds z).length c3,.slice B3 z.2.2.1.length d3,.slice C3 z.2.2.2.length f3,.int .i64 0,.slice none 0 0,.slice none 0 0,.slice none 0 0]:=zj _ _ _
 have hsl:SlAt [] (w4.alloc (.cells #[.int .i64 x.1,.slice A1 nk c1,.slice B1 nl d1,.slice C1 nr f1,.int .i64 y.1,.slice A2 mk c2,.slice B2 ml d2,.slice C2 mr f2,.int .i64 z.1,.slice A3 (Sc.kinds z).length c3,.slice B3 z.2.2.1.length d3,.slice C3 z.2.2.2.length f3,.int .i64 0,.slice none 0 0,.slice none 0 0,.slice none 0 0] 27)) (some ⟨w4.heap.size,0,none⟩) [x,y,z,Sx.noSch]:=sl_of_blk hB ⟨[.int .i64 x.1,.slice A1 nk c1,.slice B1 nl d1,.slice C1 nr f1],_,rfl,Mem.keep (Mem.keep (T.out.fact (.tail _ (.tail _ (.tail _ (.head _))))) (za hC)) (za hb4),[.int .i64 y.1,.slice A2 mk c2,.slice B2 ml d2,.slice C2 mr f2],_,rfl,Mem.keep (Mem.keep (T.out.fact (.tail _ (.head _))) (za hC)) (za hb4),[.int .i64 z.1,.slice A3 (Sc.kinds z).length c3,.slice B3 z.2.2.1.length d3,.slice C3 z.2.2.2.length f3],_,rfl,Mem.keep hrz (za hb4),[.int .i64 0,.slice none 0 0,.slice none 0 0,.slice none 0 0],_,rfl,rep_none _,rfl⟩ (show 4<=maxLen by decide)
 have T5:=aI ((((T.out.below hC).below hb4).less (L':=[]) (λ_ h=>by cases h) (List.Sublist.refl _)).add (keeps_sl (some ⟨w4.heap.size,0,none⟩) [x,y,z,Sx.noSch]) hsl)
 have HALL:=aI (show ∀X∈[x,y,z,Sx.noSch],Sx.WB 2 X by
  intro X hX
  simp only [zB,zr,zQ] at hX
  rcases hX with rfl | rfl | rfl | rfl
  .exact HOBx.out.more (by decide)
  .exact HOBy.out.more (by decide)
  .exact hOBz
  .exact Sx.WB.none_.more (by decide))
 have HLEN:=aI (show [x,y,z,Sx.noSch].length=4 from rfl)
 obtain ⟨ls,hls⟩:=aX ([x,y,z,Sx.noSch])
 rw [hls] at T5 HALL HLEN
 clear hB hsl hb4 hall hC hrz hOBz T HOBx HOBy HV hls hb1
 go_upto_region 4 with fail
 generalize w4.alloc (.cells #[.int .i64 x.1,.slice A1 nk c1,.slice B1 nl d1,.slice C1 nr f1,.int .i64 y.1,.slice A2 mk c2,.slice B2 ml d2,.slice C2 mr f2,.int .i64 z.1,.slice A3 (Sc.kinds z).length c3,.slice B3 z.2.2.1.length d3,.slice C3 z.2.2.2.length f3,.int .i64 0,.slice none 0 0,.slice none 0 0,.slice none 0 0] 27)=W5 at T5 ⊢
 generalize w4.heap.size=g at T5 ⊢
 go_wp2_with fail
 rw [e8]
 clear e8
 go_loopg [12] 4 (λr u wr=>∃k:Nat,k+r=4/\u=.int .i64 k/\Below W5.heap.size W5 wr)
 case atStart=>exact ⟨0,by omega,rfl,zf _ _⟩
 case round =>
  obtain ⟨k,hk4,rfl,hb⟩:=hrel
  obtain ⟨wo,rfl⟩:=aY wr
  have T:=aI (T5.out.below hb)
  have HB:=aI hb
  clear hb
  by_cases hlt:k < 4
  .have k0:(0:Int)<=(k:Int):=Int.natCast_nonneg _
   have k1:(k:Int) < 4:=by omega
   have hkl:k < ls.length:=by rw [HLEN.out];exact hlt
   obtain ⟨b',o',us,hbo,-,hr,hcc⟩:=SlAt.get (T.out.fact (.head _)) k hkl
   obtain ⟨rfl,rfl⟩:=addr_inj hbo
   have HWB:=aI (HALL.out _ (ze hkl))
   obtain ⟨X,hX⟩:=aX (ls[k])
   rw [hX] at hr HWB
   rw [show Mem.sz Sch=4 from rfl] at hcc
   have hr0:=hr
   obtain ⟨A6,c6,B6,d6,C6,f6,rfl,-⟩:=rep_sch hr0
   obtain ⟨p6,hp6⟩:=aX ((Sc.kinds X).length)
   obtain ⟨q6,hq6⟩:=aX X.2.2.1.length
   obtain ⟨r6,hr6⟩:=aX X.2.2.2.length
   rw [hp6,hq6,hr6] at hr hcc
   have HENVO:=aI (λ(W:World) (h:Below wo.heap.size wo W)=>HENV.out W (T5.out.bl.trans ((HB.out.trans (h.mono HB.out.size)).mono T5.out.bl.size)))
   have HCELL:=aI (λ(W:World) (h:Below wo.heap.size wo W)=>show W.cell? ⟨g,k*4,none⟩=some (.int .i64 X.1)/\W.cell? ⟨g,k*4+1,none⟩=some (.slice A6 p6 c6)/\W.cell? ⟨g,k*4+2,none⟩=some (.slice B6 q6 d6)/\W.cell? ⟨g,k*4+3,none⟩=some (.slice C6 r6 f6) from by
    have d0:=hcc 0 _ rfl;have d1:=hcc 1 _ rfl;have d2:=hcc 2 _ rfl;have d3:=hcc 3 _ rfl
    rw [zG] at d0 d1 d2 d3
    rw [zW] at d0
    exact ⟨(h.cell (zc _ _ d0)).trans d0,(h.cell (zc _ _ d1)).trans d1,(h.cell (zc _ _ d2)).trans d2,(h.cell (zc _ _ d3)).trans d3⟩)
   have CV:=aI (λ(W:World) (h:Below wo.heap.size wo W)=>show Calls Tryz.prog 7 #[.agg #[.int .i64 X.1,.slice A6 p6 c6,.slice B6 q6 d6,.slice C6 r6 f6]] W λe w'=>e=.returned (.int .i64 (Sx.valid X))/\Below W.heap.size W w' from valid_any X _ W (Mem.keep hr (za h)) (Sx.WB.sz (ag 2) HWB.out) (HENVO.out W h).1)
   have CRV:=aI (λ(W:World) (h:Below wo.heap.size wo W)=>show Calls Tryz.prog 8 #[.agg #[.int .i64 X.1,.slice A6 p6 c6,.slice B6 q6 d6,.slice C6 r6 f6]] W λe w'=>e=.returned (.int .i64 (Sx.valid X))/\Below W.heap.size W w' from rValid_sch X _ W (Mem.keep hr (za h)) (Sx.WB.sz (ag 2) HWB.out) (Sx.WB.szW (ag 2) HWB.out))
   have CP:=aI (λ(W:World) (h:Below wo.heap.size wo W)=>show Calls Tryz.prog 9 #[.agg #[.int .i64 X.1,.slice A6 p6 c6,.slice B6 q6 d6,.slice C6 r6 f6]] W λe w'=>e=.returned (.string ⟨(Sx.print X).toArray⟩)/\Below W.heap.size W w' from print_any X _ W (Mem.keep hr (za h)) (Sx.WB.sz (ag 2) HWB.out) (HENVO.out W h).1)
   have CRP:=aI (λ(W:World) (h:Below wo.heap.size wo W)=>show Calls Tryz.prog 10 #[.agg #[.int .i64 X.1,.slice A6 p6 c6,.slice B6 q6 d6,.slice C6 r6 f6]] W λe w'=>e=.returned (.string ⟨(Sx.print X).toArray⟩)/\Below W.heap.size W w' from rprint_any X _ W (Mem.keep hr (za h)) (Sx.WB.sz (ag 2) HWB.out) (Sx.WB.szW (ag 2) HWB.out))
   have CE:=aI (λ(W:World) (h:Below wo.heap.size wo W)=>show Calls Tryz.prog 12 #[.agg #[.int .i64 X.1,.slice A6 p6 c6,.slice B6 q6 d6,.slice C6 r6 f6]] W (BytesP (Sx.enc X) W) from penc_any X _ W (Mem.keep hr (za h)) HWB.out)
   have CRE:=aI (λ(W:World) (h:Below wo.heap.size wo W)=>show Calls Tryz.prog 13 #[.agg #[.int .i64 X.1,.slice A6 p6 c6,.slice B6 q6 d6,.slice C6 r6 f6]] W (BytesP (Sx.enc X) W) from encode_any X _ W (Mem.keep hr (za h)) HWB.out)
   have CD:=aI (λ(W:World) (h:Below wo.heap.size wo W)=>show Calls Tryz.prog 14 #[.agg #[.int .i64 X.1,.slice A6 p6 c6,.slice B6 q6 d6,.slice C6 r6 f6]] W λe w'=>e=.returned (.agg (byteVals (Sha.one 9 (Sx.enc X))).toArray)/\Below W.heap.size W w' from pdig_any X _ W (Mem.keep hr (za h)) HWB.out (HENVO.out W h).2.1)
   have CRD:=aI (λ(W:World) (h:Below wo.heap.size wo W)=>show Calls Tryz.prog 15 #[.agg #[.int .i64 X.1,.slice A6 p6 c6,.slice B6 q6 d6,.slice C6 r6 f6]] W λe w'=>e=.returned (.agg (byteVals (Sha.one 9 (Sx.enc X))).toArray)/\Below W.heap.size W w' from rdig_any X _ W (Mem.keep hr (za h)) HWB.out (HENVO.out W h).2.2)
   have hel:=Sx.enc_leW (ag 2) HWB.out
   obtain ⟨E,hE⟩:=aX (Sx.enc X)
   obtain ⟨vv,hvv⟩:=aX (Sx.valid X)
   obtain ⟨PP,hPP⟩:∃E:ByteArray,⟨(Sx.print X).toArray⟩=E:=⟨_,rfl⟩
   rw [hE] at CE CRE CD CRD hel
   rw [hvv] at CV CRV
   rw [hPP] at CP CRP
   obtain ⟨D,hD⟩:=aX ((byteVals (Sha.one 9 E)).toArray)
   have heqd:∀W:World,(Op.equalIn 10000 38 (.agg D) (.agg D)).run Tryz.prog W=.ok true W:=λW=>by rw [<-hD];exact eqD_run _ (Sha.one_length _ _) W
   rw [hD] at CD CRD
   have CSM:=aI (λ(W:World) (A7:Option Addr) (c7:Nat) (A8:Option Addr) (c8:Nat) (s7:SlAt [] W A7 E) (s8:SlAt [] W A8 E)=>show Calls Tryz.prog 11 #[.slice A7 E.length c7,.slice A8 E.length c8] W λe w'=>e=.returned (.bool true)/\Below W.heap.size W w' by
    have:=same_any E E A7 A8 c7 c8 W s7 s8 (by omega) (by omega)
    rwa [ac rfl] at this)
   unfold BytesP at CE CRE
   clear hr hr0 hcc hX hp6 hq6 hr6 hE hvv hPP hD hel
   go_wp2_with fail
   have hb1:=below_drewS wo
   apply zy (C:=λw'=>Below wo.heap.size wo w') (n:=88) (m:=51) (l1:=[_,_,_,_,_,_,_,_,_,_,_,_,_,_,_,_,_,_,_,_,_,_,_,_,_,_,_,_,_,_,_,_,_,_,_,_,_,_,_,_,_,_,_,_,_,_,_,_,_,_,_]) (l2:=[]);rfl;rfl;kernel_rfl;rfl;kernel_rfl;exact hb1;exact aR
   iterate 29 (((apply aJ;·(intro w' hC hf;obtain ⟨q0,q1,q2,q3⟩:=HCELL.out _ hC;have HC:=aI hC;clear hf hC;go_wp2_with (first | (go_at_call 7;refine (CV.out _ HC.out).mono ?_;rintro e w2 ⟨rfl,hb2⟩) | (go_at_call 8;refine (CRV.out _ HC.out).mono ?_;rintro e w2 ⟨rfl,hb2⟩) | (go_at_call 9;refine (CP.out _ HC.out).mono ?_;rintro e w2 ⟨rfl,hb2⟩) | (go_at_call 10;refine (CRP.out _ HC.out).mono ?_;rintro e w2 ⟨rfl,hb2⟩) | (go_at_call 14;refine (CD.out _ HC.out).mono ?_;rintro e w2 ⟨rfl,hb2⟩) | (go_at_call 15;refine (CRD.out _ HC.out).mono ?_;rintro e w2 ⟨rfl,hb2⟩));apply postT_val rfl (by first | exact zf _ _ | assumption);simp only [zC];exact rfl));(try simp only [zn])))
   apply zF (isBytes_kept E)
   .intro w' hC hf;unfold Gives
    have HC:=aI hC
    clear hf hC
    go_wp2_with (go_at_call 12;refine (CE.out _ HC.out).mono ?_;rintro e w2 ⟨v,rfl,hown,hb⟩;have HO:=aI hown;have HBL:=aI hb;clear hown hb)
    apply zJ rfl HBL.out;simp only [zC];exact ⟨_,HO.out⟩
   intro v65;(try simp only [zn])
   iterate 4 (((apply aJ;·(intro w' hC hf;obtain ⟨q0,q1,q2,q3⟩:=HCELL.out _ hC;have HC:=aI hC;clear hf hC;go_wp2_with (first | (go_at_call 7;refine (CV.out _ HC.out).mono ?_;rintro e w2 ⟨rfl,hb2⟩) | (go_at_call 8;refine (CRV.out _ HC.out).mono ?_;rintro e w2 ⟨rfl,hb2⟩) | (go_at_call 9;refine (CP.out _ HC.out).mono ?_;rintro e w2 ⟨rfl,hb2⟩) | (go_at_call 10;refine (CRP.out _ HC.out).mono ?_;rintro e w2 ⟨rfl,hb2⟩) | (go_at_call 14;refine (CD.out _ HC.out).mono ?_;rintro e w2 ⟨rfl,hb2⟩) | (go_at_call 15;refine (CRD.out _ HC.out).mono ?_;rintro e w2 ⟨rfl,hb2⟩));apply postT_val rfl (by first | exact zf _ _ | assumption);simp only [zC];exact rfl));(try simp only [zn])))
   apply zF (isBytes_kept E)
   .intro w' hC hf;unfold Gives
    have HC:=aI hC
    clear hf hC
    go_wp2_with (go_at_call 13;refine (CRE.out _ HC.out).mono ?_;rintro e w2 ⟨v,rfl,hown,hb⟩;have HO:=aI hown;have HBL:=aI hb;clear hown hb)
    apply zJ rfl HBL.out;simp only [zC];exact ⟨_,HO.out⟩
   intro v70;(try simp only [zn])
   (apply aJ;·(intro w' hC hf;have r8:=hf.1 rfl;have r6:=hf.2.1 rfl;clear hf hC;obtain ⟨A8,c8,h8,-,-,s8⟩:=rep_bytes r8;obtain ⟨A6_,c6_,h6,-,-,s6⟩:=rep_bytes r6;injection h8 with h8 _;injection h6 with h6 _;subst h8;subst h6;have S8:=aI s8;have S6:=aI s6;clear r8 r6 s8 s6;go_wp2_with (go_at_call 11;refine (CSM.out _ _ _ _ _ S6.out S8.out).mono ?_;rintro e w2 ⟨rfl,hb⟩;have HBL:=aI hb;clear hb);apply postT_val rfl HBL.out;simp only [zC];exact rfl));(try simp only [zn])
   iterate 13 (((apply aJ;·(intro w' hC hf;obtain ⟨q0,q1,q2,q3⟩:=HCELL.out _ hC;have HC:=aI hC;clear hf hC;go_wp2_with (first | (go_at_call 7;refine (CV.out _ HC.out).mono ?_;rintro e w2 ⟨rfl,hb2⟩) | (go_at_call 8;refine (CRV.out _ HC.out).mono ?_;rintro e w2 ⟨rfl,hb2⟩) | (go_at_call 9;refine (CP.out _ HC.out).mono ?_;rintro e w2 ⟨rfl,hb2⟩) | (go_at_call 10;refine (CRP.out _ HC.out).mono ?_;rintro e w2 ⟨rfl,hb2⟩) | (go_at_call 14;refine (CD.out _ HC.out).mono ?_;rintro e w2 ⟨rfl,hb2⟩) | (go_at_call 15;refine (CRD.out _ HC.out).mono ?_;rintro e w2 ⟨rfl,hb2⟩));apply postT_val rfl (by first | exact zf _ _ | assumption);simp only [zC];exact rfl));(try simp only [zn])))
   iterate 2 (((apply aJ;·(intro w' hC hf;obtain ⟨q0,q1,q2,q3⟩:=HCELL.out _ hC;have HC:=aI hC;clear hf hC;go_wp2_with (first | (go_at_call 7;refine (CV.out _ HC.out).mono ?_;rintro e w2 ⟨rfl,hb2⟩) | (go_at_call 8;refine (CRV.out _ HC.out).mono ?_;rintro e w2 ⟨rfl,hb2⟩) | (go_at_call 9;refine (CP.out _ HC.out).mono ?_;rintro e w2 ⟨rfl,hb2⟩) | (go_at_call 10;refine (CRP.out _ HC.out).mono ?_;rintro e w2 ⟨rfl,hb2⟩) | (go_at_call 14;refine (CD.out _ HC.out).mono ?_;rintro e w2 ⟨rfl,hb2⟩) | (go_at_call 15;refine (CRD.out _ HC.out).mono ?_;rintro e w2 ⟨rfl,hb2⟩));apply postT_val rfl (by first | exact zf _ _ | assumption);simp only [zC];exact rfl));(try simp only [zn])))
   apply wpT_done
   intro w4 hC hall
   have HB4:=aI (HB.out.trans (hC.mono HB.out.size))
   clear hC hall
   go_wp2_with fail
   go_roundg (gk - 1)
   case measure=>omega
   case rel=>exact ⟨k+1,by omega,by go_num,HB4.out⟩
  .obtain rfl:k=4:=by omega
   have HLV:=aI (λ(W:World) (h:Below W5.heap.size W5 W)=>lives_any W (HENV.out W (T5.out.bl.trans (h.mono T5.out.bl.size))).1)
   go_wp2_with (go_at_call 16;refine (HLV.out _ HB.out).mono ?_;rintro e w2 ⟨rfl,hb2⟩;have HB2:=aI hb2;clear hb2)
   go_ret
   exact ⟨rfl,(T5.out.below HB.out).bl.trans (HB2.out.mono (T5.out.below HB.out).bl.size)⟩
open Go Go.ChangeShapes Go.WideShapes Go.ChangeAt Go.RowKit
theorem own:ownKnob Tryz.prog.godebug=none:=by kernel_rfl
theorem gPowS : Tryz.prog.globalNamed "internal/strconv.uint64pow10" = some 5 := by kernel_rfl
theorem gB64S : Tryz.prog.globalNamed "math/bits.deBruijn64tab" = some 9 := by kernel_rfl
theorem gWordsS : Tryz.prog.globalNamed "diorama/schema.words" = some 0 := by kernel_rfl
theorem tPow:(Tryz.prog.globals[5]?).map (·.type)=some 224:=by kernel_rfl
theorem tWords:(Tryz.prog.globals[0]?).map (·.type)=some 165:=by kernel_rfl
theorem tSyn:(Tryz.prog.globals[3]?).map (·.type)=some 123:=by kernel_rfl
theorem tRng:(Tryz.prog.globals[4]?).map (·.type)=some 123:=by kernel_rfl
theorem rowErr (u : TypeId) (h : Tryz.prog.typeName? 3 u = some "*errors.errorString") : u = 229 :=
 typeName_ptr_named (nm := "errors.errorString") (by rw [show ("*" ++ "errors.errorString" : String) = "*errors.errorString" from by decide]; kernel_rfl) (by kernel_rfl) (by decide) u (by rw [show ("*" ++ "errors.errorString" : String) = "*errors.errorString" from by decide]; exact h)
theorem cells_of_strs {H:Type} {enc:TypeId × Value->H} {P:Program} {w:World} {base:Nat} {sp:Nat->Bool} {held:Bool} {fuel:Nat} {t e:TypeId} {n:Nat} {cs:List Value} {zs:List (List UInt8)} {p:List MemPlace}
  (ht:P.underlying t=some (.array n e)) (he:P.underlying e=some .string) (hce:P.cellsOf e=1) (hct:P.cellsOf t=n)
  (h:DataW.trod enc P w base sp held fuel t cs=some (.agg (zs.map λz=>.lit (.string z)),p)):cs=zs.map λz=>Value.string (Sx.ofT z):=by
 cases fuel with
 | zero=>simp [DataW.trod] at h
 | succ fuel =>
  simp only [DataW.trod,ht,hce,hct,zO] at h
  split at h
  .rename_i hl
   obtain ⟨xs,hm,hx⟩:=Option.map_eq_some_iff.1 h
   have hxs:xs.map (·.1)=zs.map λz=>(DataW.lit (.string z):DataW H):=by
    have:=zt Prod.fst hx
    simpa using this
   have hxl:xs.length=n:=by simpa using Lib.mapM_length hm
   have hzl:zs.length=n:=by
    have:=zt List.length hxs
    simp at this
    omega
   apply List.ext_getElem?
   intro i
   by_cases hi:i < n
   .obtain ⟨b,hb,hf⟩:=Lib.mapM_at hm i i (by simp [hi])
    obtain ⟨z,hc,rfl,_⟩:=DataW.trod_string he hf
    have h1:cs[i]?=some (.string z):=by
     have:=zt (·[0]?) hc
     simpa [List.getElem?_take,List.getElem?_drop] using this
    have h2:(xs.map (·.1))[i]?=some (DataW.lit (.string z.data.toList):DataW H):=by simp [hb]
    rw [hxs] at h2
    simp only [List.getElem?_map,Option.map_eq_some_iff,DataW.lit.injEq,Lit.string.injEq] at h2
    obtain ⟨z',hz',h3⟩:=h2
    rw [h1,List.getElem?_map,hz']
    have:Sx.ofT z'=z:=by rw [h3];unfold Sx.ofT;simp
    rw [<-this];rfl
   .rw [List.getElem?_eq_none (by omega),List.getElem?_eq_none (by simp;omega)]
  .cases h
theorem size_of_var {P:Program} {w:World} {n:String} {g:Nat} {cs:Array Value} (hg:P.globalNamed n=some g) (h:w.var? P n=some cs):g < w.heap.size:=by
 unfold World.var? at h
 rw [hg] at h
 rcases Nat.lt_or_ge g w.heap.size with h' | h'
 .exact h'
 .simp [zV h'] at h
section
variable {H:Type} {enc:TypeId × Value->H} {P:Program}
theorem post_low {f:Func} {s:ChangeSpec} {apart fresh handsOn again:Bool} {W W':World} {args:Array Value} {v:Value} {ds gs:List (DataW H)} {before:List MemPlace}
  (hW:DataW.Whole enc P f.params.toList s.vars apart W args.toList ds gs before) (hb:Below W.heap.size W W')
  (hres:∀(b:Nat) (sp:Nat->Bool) (hd:Bool),DataW.TrodAll enc P W' b sp hd f.resultTypes.toList (v.resultList f.resultTypes.size) (s.fn H (ds++gs)).results [])
  (hargs:∀sp:Nat->Bool,(∀p∈before,sp p.block=true)->DataW.TrodAll enc P W' 0 sp true f.params.toList args.toList (s.fn H (ds++gs)).args before)
  (hvars:∀sp:Nat->Bool,DataW.TrodVars enc P W' sp s.vars (s.fn H (ds++gs)).vars [])
  (hok:∀(j:Nat) (t:TypeId) (r:Value),f.resultTypes[j]?=some t->(v.resultList f.resultTypes.size)[j]?=some r->Value.okWide P W' .any 0 t r) :
  s.post enc P f apart fresh handsOn again W args v W':=by
 have hold:∀p∈before,(λb=>decide (b < W.heap.size)) p.block=true:=λp hp=>ac (hW.lt p hp)
 have hz2:=hW
 obtain ⟨_,_,_,_,_,hz,hn⟩:=hz2
 have hwhole:DataW.TrodAll enc P W' 0 (λ_=>true) true f.params.toList args.toList (s.fn H (ds++gs)).args before:=hargs _ (λ_ _=>rfl)
 refine ⟨ds,gs,before,[],before,[],hW,hres _ _ _,hargs _ hold,hvars _,World.keptBut_mono (λp hp=>⟨hp,.inr (.inl hp)⟩) (hb.frame (·∈before)),λ_=>?_⟩
 refine ⟨hok,_,_,([]++before)++[],⟨[]++before,[],trodAll_append hwhole (hres _ _ _),hvars _,rfl,?_,?_⟩,?_⟩
 .intro b off hp
  have hin:MemPlace.cell b off∈before:=by simpa using hp
  rw [hb.frozen (hW.lt _ hin)]
  exact hz b off hin
 .intro ha
  have:=hn ha
  simpa using this
 .intro p hp _
  simpa using hp
end
theorem laidOut:laidOutB Tryz.prog=true:=by kernel_rfl
section
variable {H:Type} {enc:TypeId × Value->H} {P:Program}
theorem trodAll_stays (hl:laidOutB P=true) {W W':World} {sp:Nat->Bool}:∀(ts:List TypeId) (vs:List Value) (ds:List (DataW H)) (ps:List MemPlace),
  (ts.all λt=>P.readableRec t && decide (t < P.types.size))=true->DataW.TrodAll enc P W 0 (λ_=>true) true ts vs ds ps->(∀p∈ps,W.sameAt W' p)->(∀p∈ps,sp p.block=true)->DataW.TrodAll enc P W' 0 sp true ts vs ds ps
 | [],vs,ds,ps,_,h,_,_=>by
  match vs,ds,h with
  | [],[],h=>exact h
 | t::ts,vs,ds,ps,ht,h,hs,hp=>by
  obtain ⟨v,vs',d,ds',p,q,rfl,rfl,rfl,h1,h2⟩:=trodAll_cons h
  simp only [List.all_cons,zw,zD] at ht
  exact trodAll_cons_mk (WideElems.Trod_stays hl ht.1.1 ht.1.2 h1 (λx hx=>hs x (List.mem_append_left _ hx)) (λx hx=>hp x (List.mem_append_left _ hx)))
   (trodAll_stays hl ts vs' ds' q ht.2 h2 (λx hx=>hs x (List.mem_append_right _ hx)) (λx hx=>hp x (List.mem_append_right _ hx)))
theorem post_law {f:Func} {s:ChangeSpec} {apart fresh handsOn again:Bool} {W W':World} {args:Array Value} {ds:List (DataW H)} {before:List MemPlace} {tb:TypeId}
  (hl:laidOutB P=true) (hts:(f.params.toList.all λt=>P.readableRec t && decide (t < P.types.size))=true) (hr:f.resultTypes=#[tb]) (htb:P.underlying tb=some .bool)
  (hW:DataW.Whole enc P f.params.toList s.vars apart W args.toList ds [] before) (hb:Below W.heap.size W W') (hv:s.vars=[])
  (hs:s.fn H ds={ results:=[.lit (.bool true)],args:=ds }):s.post enc P f apart fresh handsOn again W args (.bool true) W':=by
 have hW0:=hW
 obtain ⟨p,q,hA,hV,hpq,hz,hn⟩:=hW
 have hq:q=[]:=by rw [hv] at hV;exact (trodVars_none hV).2
 have hA':DataW.TrodAll enc P W 0 (λ_=>true) true f.params.toList args.toList ds before:=by
  have e:before=p:=by rw [hpq,hq,zK]
  rw [e];exact hA
 refine post_low hW0 hb ?_ ?_ ?_ (ok_one hr rfl (okWide_bool_mk htb _))
 .intro b sp hd
  rw [zK,hs]
  show DataW.TrodAll enc P W' b sp hd f.resultTypes.toList ((Value.bool true).resultList f.resultTypes.size) [.lit (.bool true)] []
  rw [hr]
  exact trodAll_cons_mk (shut_bool htb _) trodAll_mk0
 .intro sp hsp
  rw [zK,hs]
  exact trodAll_stays hl _ _ _ _ hts hA' (λx hx=>hb.same (hW0.lt x hx)) hsp
 .intro sp
  rw [zK,hs,hv]
  rfl
end
theorem inI_of_wf {x:Int} (h:(Lit.int .i64 x).wf=true):inI x:=by
 have h2:-9223372036854775808<=x/\x<=9223372036854775807:=by
  simp [Lit.wf,IntKind.min,IntKind.max,IntKind.signed,IntKind.bits] at h
  omega
 exact h2
section
variable {H:Type} {enc:TypeId × Value->H} {P:Program} {W:World} {t e:TypeId} {v:Value} {d:DataW H} {ps:List MemPlace} {b0:Nat}
theorem arg_int (ht:P.underlying t=some (.int .i64)) (hv:Value.okWide P W .any b0 t v) (h:DataW.Trod enc P W 0 (λ_=>true) true t v d ps):∃a,v=.int .i64 a/\inI a:=by
 obtain ⟨a,rfl,_,_,hw⟩:=open_int ht hv h
 exact ⟨a,rfl,inI_of_wf hw⟩
theorem arg_ints (ht:P.underlying t=some (.slice e)) (he:P.underlying e=some (.int .i64)) (hc:P.cellsOf e=1) (hv:Value.okWide P W .any b0 t v)
  (h:DataW.Trod enc P W 0 (λ_=>true) true t v d ps) (hlt:∀p∈ps,p.block < W.heap.size):∃A n c L,v=.slice A n c/\Ints W W.heap.size A n L/\AllI L/\n<=9223372036854775807:=by
 obtain ⟨A,n,c,rfl⟩:=okWide_slice ht hv
 obtain ⟨fuel,hf⟩:=h
 rcases open_ints ht he hc hf with ⟨hcs,_⟩ | ⟨a,len,cap,zs,hcs,_,hl,hm,hz,hx,hcell,hw⟩
 .simp [Value.cells] at hcs
  obtain ⟨rfl,rfl,rfl⟩:=hcs
  exact ⟨none,0,0,[],rfl,Ints.nil,λ_ h=>(by cases h),by omega⟩
 .simp [Value.cells] at hcs
  obtain ⟨rfl,rfl,rfl⟩:=hcs
  simp only [Prod.mk.injEq] at hx
  obtain ⟨rfl,rfl⟩:=hx
  simp only [if_true] at hz
  have hL:(zs.take n).length=n:=by rw [zI];omega
  refine ⟨some a,n,c,zs.take n,rfl,⟨by simp [intVals];omega,λhn=>⟨a,rfl,hlt (.cell a.block a.off) (MemPlace.mem_row.2 ⟨0,by omega,by simp⟩),λj u hu=>?_⟩⟩,λx hx=>inI_of_wf (hw x (List.mem_of_mem_take hx)),by unfold maxLen at hm;omega⟩
  have hj:j < n:=by
   have:=(List.getElem?_eq_some_iff.1 hu).1
   simp [intVals] at this;omega
  rw [intVals_get (by omega)] at hu
  obtain rfl:=Option.some.inj hu
  rw [hcell j (by omega)]
  simp [List.getD,hj]
end
theorem ints_sl {W:World} {A:Option Addr} {n:Nat} {L:List Int} (h:Ints W W.heap.size A n L) (hL:AllI L):SlAt [] W A L:=by
 rcases Nat.eq_zero_or_pos n with hn | hn
 .have:=h.len
  rw [hn] at this
  exact .inl (zT this)
 .obtain ⟨b,off,rfl,hb,hc⟩:=h.form hn
  refine .inr ⟨b,off,rfl,hb,(λh=>by cases h),λi hi=>⟨[.int .i64 L[i]],⟨rfl,hL _ (ze hi)⟩,λj u hu=>?_⟩⟩
  match j,hu with
  | 0,hu =>
   obtain rfl:=Option.some.inj hu
   have:=hc i hi
   rw [show i*Mem.sz Int+0=i from zO i,this]
   simp [List.getD,zp hi]
theorem arg_sl {H:Type} {enc:TypeId × Value->H} {P:Program} {W:World} {t e:TypeId} {v:Value} {d:DataW H} {ps:List MemPlace} {b0:Nat} (ht:P.underlying t=some (.slice e)) (he:P.underlying e=some (.int .i64)) (hc:P.cellsOf e=1) (hv:Value.okWide P W .any b0 t v)
  (h:DataW.Trod enc P W 0 (λ_=>true) true t v d ps) (hlt:∀p∈ps,p.block < W.heap.size):∃(A:Option Addr) (c:Nat) (L:List Int),v=.slice A L.length c/\SlAt [] W A L/\L.length<=c/\c<=9223372036854775807:=by
 obtain ⟨A,n,c,L,rfl,hI,hA,hn⟩:=arg_ints ht he hc hv h hlt
 have hb:n<=c/\c<=9223372036854775807:=by
  obtain ⟨fuel,hf⟩:=h
  rcases open_ints ht he hc hf with ⟨hcs,_⟩ | ⟨a,len,cap,zs,hcs,_,hl,hm,_⟩
  .simp [Value.cells] at hcs
   omega
  .simp [Value.cells] at hcs
   unfold maxLen at hm
   omega
 exact ⟨A,c,L,by rw [hI.len],ints_sl hI hA,by rw [hI.len];exact hb.1,hb.2⟩
end
section
open Go Go.ChangeShapes Go.WideShapes Go.ChangeAt Go.RowKit
abbrev laidAll:List (String × DataW Unit):=Rows.schemaValidRow.laid
theorem gHash : Tryz.prog.globalNamed "diorama/hash.constants" = some 1 := by kernel_rfl
theorem tHash:(Tryz.prog.globals[1]?).map (·.type)=some 178:=by kernel_rfl
theorem gRHash : Tryz.prog.globalNamed "diorama/dioramaref02.constants" = some 2 := by kernel_rfl
theorem tRHash:(Tryz.prog.globals[2]?).map (·.type)=some 178:=by kernel_rfl
theorem tab_range {W:World} {name:String} {g:Nat} {zs:List Int} (h:Lib.TabIs Tryz.prog W name .u32 zs) (hg:Tryz.prog.globalNamed name=some g):W.rangeAt g 0 (wv zs):=by
 intro j v hv
 have hj:j < zs.length:=by
  have:=(List.getElem?_eq_some_iff.1 hv).1
  rwa [wv_length] at this
 rw [wv_get hj] at hv
 obtain rfl:=Option.some.inj hv
 rw [zG]
 exact h.cell hg j hj
theorem senv_of_laid {W:World} (hL:laidMetH Tryz.prog laidAll W):SEnv W/\KEnv W/\RKEnv W:=by
 have h0:laidMet Tryz.prog laidAll W:=hL
 have h:=h0.tail
 have h2:=h.tail
 have hk:=h2.tail
 have h3:=hk.tail
 have h4:=h3.tail
 have h5:=h4.tail
 have h6:=h5.tail
 have h7:=h6.tail
 obtain ⟨a1,s1,hv1,_⟩:=laid_sentinel h5 gRng tRng Tryz.underlying123 rowErr Tryz.underlying229 Tryz.underlying231 rfl rfl Tryz.underlying9 (by kernel_rfl) (by kernel_rfl)
 obtain ⟨a0,s0,hv0,_⟩:=laid_sentinel h6 gSyn tSyn Tryz.underlying123 rowErr Tryz.underlying229 Tryz.underlying231 rfl rfl Tryz.underlying9 (by kernel_rfl) (by kernel_rfl)
 have hT : Lib.TabIs Tryz.prog W "internal/strconv.uint64pow10" .u64 Lib.pow10Tab := Lib.tabIs_of_head gPowS tPow Tryz.underlying224 Tryz.underlying89 (by kernel_rfl) (by kernel_rfl) h3
 have hp:5 < W.heap.size:=by
  unfold Lib.TabIs at hT
  exact size_of_var gPowS hT
 have hKT : Lib.TabIs Tryz.prog W "diorama/hash.constants" .u32 Sha.KK := Lib.tabIs_of_head gHash tHash Tryz.underlying178 Tryz.underlying90 (by kernel_rfl) (by kernel_rfl) hk
 have hKE:KEnv W:=tab_range hKT gHash
 have hRT : Lib.TabIs Tryz.prog W "diorama/dioramaref02.constants" .u32 Sha.KK := Lib.tabIs_of_head gRHash tRHash Tryz.underlying178 Tryz.underlying90 (by kernel_rfl) (by kernel_rfl) h0
 have hRE:RKEnv W:=tab_range hRT gRHash
 obtain ⟨_,⟨g4,t4,cs,_,_,_,hg4,ht4,hv4,hd,_⟩,_⟩:=h7
 obtain rfl:=Option.some.inj (gWordsS.symm.trans hg4)
 obtain rfl:=Option.some.inj (tWords.symm.trans ht4)
 have hcs:=cells_of_strs (zs:=Sx.wordsL) Tryz.underlying165 Tryz.underlying9 (by kernel_rfl) (by kernel_rfl) hd
 have hs:=size_of_var gSyn hv0
 have hr:=size_of_var gRng hv1
 have hw:=size_of_var gWordsS hv4
 refine ⟨⟨⟨hT,hp⟩,⟨_,_,hv0⟩,⟨_,_,hv1⟩,λk hk=>?_,?_⟩,hKE,hRE⟩
 .rw [World.var?_cell gWordsS hv4 k,<-Array.getElem?_toList,hcs]
  rw [List.getElem?_map,zp (show k < Sx.wordsL.length from hk)]
  unfold wdS
  rw [List.getD_eq_getElem?_getD,zp (show k < Sx.wordsL.length from hk)]
  rfl
 .obtain ⟨_,⟨g5,_,_,_,_,_,hg5,_,hv5,_⟩,_⟩:=h2
  obtain rfl:=Option.some.inj (gB64S.symm.trans hg5)
  first | exact Nat.lt_of_le_of_lt (by decide) (size_of_var gB64S hv5) | exact Nat.lt_of_le_of_lt (by decide) hw | exact Nat.lt_of_le_of_lt (by decide) hs | exact Nat.lt_of_le_of_lt (by decide) hr | exact Nat.lt_of_le_of_lt (by decide) hp
theorem laid_met (os:Os) (args:Array Value):laidMet Tryz.prog laidAll ((World.laidAll Tryz.prog os laidAll).forCall (λ_ _=>0) ⟨#[],args,[]⟩).memory :=
 laidMet_laidAll args (by kernel_rfl) (by kernel_rfl)
end
end Go.Proofs.YtobcnhmhgoccnaaGreatDoor
