/- Parts of the proof, joined: SxQ1, SyLs. -/
import Derived.Test.YtobcnhmhgoccnaaGreatDoorG11
import Derived.Test.YtobcnhmhgoccnaaGreatDoorG14
set_option maxRecDepth 100000
set_option maxHeartbeats 8000000
set_option linter.unusedVariables false
set_option linter.unusedSimpArgs false
set_option linter.unusedSectionVars false
namespace Go.Proofs.YtobcnhmhgoccnaaGreatDoor
open Go Go.RowKit
section
def Sx.eqL {α:Type} (p:α->α->Bool) (a b:List α):Bool:=decide (a.length=b.length) && (a.zip b).all fun q=>p q.1 q.2
theorem eqL_len {α:Type} {p:α->α->Bool} {a b:List α} (h:a.length≠b.length):Sx.eqL p a b=false:=by unfold Sx.eqL;rw [decide_eq_false h];rfl
theorem eqL_bad {α:Type} {p:α->α->Bool} {a b:List α} {k:Nat} (h1:k < a.length) (h2:k < b.length) (h:p a[k] b[k]=false):Sx.eqL p a b=false:=by
 unfold Sx.eqL
 rw [all_bad (b:=fun q=>p q.1 q.2) (l:=a.zip b) (k:=k) (by rw [List.length_zip];omega) (by rw [List.getElem_zip];exact h),Bool.and_false]
theorem eqL_good {α:Type} {p:α->α->Bool} {a b:List α} (hl:a.length=b.length) (h:∀ k (h1:k < a.length) (h2:k < b.length),p a[k] b[k]=true):Sx.eqL p a b=true:=by
 unfold Sx.eqL
 rw [decide_eq_true hl,all_good fun k hk=>?_,Bool.and_true]
 rw [List.length_zip] at hk
 rw [List.getElem_zip]
 exact h k (by omega) (by omega)
theorem eqL_iff {α:Type} {p:α->α->Bool} (hp:∀ x y,p x y=true↔x=y) (a b:List α):Sx.eqL p a b=true↔a=b:=by
 constructor
 ·intro h
  unfold Sx.eqL at h
  rw [Bool.and_eq_true,decide_eq_true_eq,List.all_eq_true] at h
  refine List.ext_getElem h.1 fun k h1 h2=>(hp _ _).1 ?_
  have:=h.2 (a[k],b[k]) (by
   have:=List.getElem_mem (l:=a.zip b) (n:=k) (by rw [List.length_zip];omega)
   rw [List.getElem_zip] at this;exact this)
  exact this
 ·rintro rfl
  exact eqL_good rfl fun k h1 h2=>(hp _ _).2 rfl
def rtEF:Value:=.func (.func 62) #[] #[]
theorem eqF_any (xs ys:List (Fld)) (A B:Option Addr) (c d:Nat) (w:World) (ha:SlAt [] w A xs) (hb:SlAt [] w B ys) (hx:xs.length<=9223372036854775807) (hy:ys.length<=9223372036854775807) :
  Calls Tryz.prog 61 #[.slice A xs.length c,.slice B ys.length d,rtEF] w (BoolP (Sx.eqL Sx.sameF xs ys) w):=by
 obtain ⟨n,hn⟩:=aX xs.length
 obtain ⟨m,hm⟩:=aX ys.length
 have HX:=aI ha;have HY:=aI hb
 have HN:=aI hn;have HM:=aI hm
 have HBD:=aI (fun (k:Nat)=>eqL_bad (p:=Sx.sameF) (a:=xs) (b:=ys) (k:=k))
 have HGD:=aI (eqL_good (p:=Sx.sameF) (a:=xs) (b:=ys))
 have HLN:=aI (eqL_len (p:=Sx.sameF) (a:=xs) (b:=ys))
 obtain ⟨q,hq⟩:=aX (Sx.eqL Sx.sameF xs ys)
 rw [hq] at HBD HGD HLN ⊢
 rw [hn] at hx ⊢
 rw [hm] at hy ⊢
 unfold rtEF
 clear ha hb hn hm hq
 go_enter Tryz.func61,Tryz.ntmps61
 by_cases hnm:n=m
 ·subst hnm
  go_wp2_with fail
  go_loopg [17] n (fun r i wr=>∃ k:Nat,k+r=n/\i=.int .i64 k/\Below w.heap.size w wr/\∀ j (h1:j < xs.length) (h2:j < ys.length),j < k->Sx.sameF xs[j] ys[j]=true)
  case atStart=>exact ⟨0,by omega,rfl,Below.refl _ _,fun _ _ _ h=>by omega⟩
  case round =>
   obtain ⟨k,hk,rfl,hb,hall⟩:=hrel
   obtain ⟨wo,rfl⟩:=aY wr
   have HB:=aI hb
   have HA:=aI hall
   clear hb hall
   by_cases hlt:k < n
   ·have hkx:k < xs.length:=by rw [HN.out];exact hlt
    have hky:k < ys.length:=by rw [HM.out];exact hlt
    have k0:(0:Int)<=(k:Int):=aa _
    have k1:(k:Int) < (n:Int):=by omega
    obtain ⟨b,o,us,rfl,_,hr,hc⟩:=(HX.out.keep (Chg.of_below HB.out)).get k hkx
    obtain ⟨b2,o2,vs,rfl,_,hr2,hc2⟩:=(HY.out.keep (Chg.of_below HB.out)).get k hky
    obtain ⟨x,hxe⟩:=aX (xs[k])
    obtain ⟨y,hye⟩:=aX (ys[k])
    have HP:=aI (show Sx.sameF xs[k] ys[k]=Sx.sameF x y by rw [hxe,hye])
    rw [hxe] at hr
    rw [hye] at hr2
    have hr0:=hr;have hr02:=hr2
    obtain ⟨A1,cA,B1,dA,rfl,_⟩:=rep_fld hr0
    obtain ⟨A2,cB,B2,dB,rfl,_⟩:=rep_fld hr02
    rw [show Mem.sz (Fld)=8 from rfl] at hc hc2
    obtain ⟨c0,c1,c2,c3,c4,c5,c6,c7⟩:=aG8 (m:=k*8) hc
    have d0:wo.cell? ⟨b2,o2+k*8,none⟩=some (.string (Sc.nm y)):=hc2 0 _ rfl
    have d1:wo.cell? ⟨b2,o2+k*8+1,none⟩=some (.string (Sc.of_ y)):=hc2 1 _ rfl
    have d2:wo.cell? ⟨b2,o2+k*8+2,none⟩=some (.string (Sc.up y)):=hc2 2 _ rfl
    have d3:wo.cell? ⟨b2,o2+k*8+3,none⟩=some (.int .i64 (Sc.kd y)):=hc2 3 _ rfl
    have d4:wo.cell? ⟨b2,o2+k*8+4,none⟩=some (.int .i64 (Sc.lo y)):=hc2 4 _ rfl
    have d5:wo.cell? ⟨b2,o2+k*8+5,none⟩=some (.int .i64 (Sc.hi y)):=hc2 5 _ rfl
    have d6:wo.cell? ⟨b2,o2+k*8+6,none⟩=some (.slice A2 (Sc.words y).length cB):=hc2 6 _ rfl
    have d7:wo.cell? ⟨b2,o2+k*8+7,none⟩=some (.slice B2 (Sc.wts y).length dB):=hc2 7 _ rfl
    have hb5:Below wo.heap.size wo (wo.alloc (.cells #[.string (Sc.nm x),.string (Sc.of_ x),.string (Sc.up x),.int .i64 (Sc.kd x),.int .i64 (Sc.lo x),.int .i64 (Sc.hi x),.slice A1 (Sc.words x).length cA,.slice B1 (Sc.wts x).length dA] 65)):=(Below.refl _ _).alloc (ag _) _
    have hk5:Blk (wo.alloc (.cells #[.string (Sc.nm x),.string (Sc.of_ x),.string (Sc.up x),.int .i64 (Sc.kd x),.int .i64 (Sc.lo x),.int .i64 (Sc.hi x),.slice A1 (Sc.words x).length cA,.slice B1 (Sc.wts x).length dA] 65)) wo.heap.size 65 #[.string (Sc.nm x),.string (Sc.of_ x),.string (Sc.up x),.int .i64 (Sc.kd x),.int .i64 (Sc.lo x),.int .i64 (Sc.hi x),.slice A1 (Sc.words x).length cA,.slice B1 (Sc.wts x).length dA]:=Blk.new _ _ _
    have HR1:=aI (Mem.keep hr (Chg.of_below hb5));have HR2:=aI (Mem.keep hr2 (Chg.of_below hb5))
    have e0:=(hb5.cell (World.block_lt_of_cell? _ _ d0)).trans d0
    have e1:=(hb5.cell (World.block_lt_of_cell? _ _ d1)).trans d1
    have e2:=(hb5.cell (World.block_lt_of_cell? _ _ d2)).trans d2
    have e3:=(hb5.cell (World.block_lt_of_cell? _ _ d3)).trans d3
    have e4:=(hb5.cell (World.block_lt_of_cell? _ _ d4)).trans d4
    have e5:=(hb5.cell (World.block_lt_of_cell? _ _ d5)).trans d5
    have e6:=(hb5.cell (World.block_lt_of_cell? _ _ d6)).trans d6
    have e7:=(hb5.cell (World.block_lt_of_cell? _ _ d7)).trans d7
    obtain ⟨Nx,hNx⟩:=aX wo.heap.size
    have HB5:=aI (HB.out.trans (hb5.mono HB.out.size))
    have HK5:=aI hk5
    clear hxe hye hr hr2 hr0 hr02 hc hc2 hb5 hk5
    go_upto_region 6 with fail
    generalize wo.alloc (.cells #[.string (Sc.nm x),.string (Sc.of_ x),.string (Sc.up x),.int .i64 (Sc.kd x),.int .i64 (Sc.lo x),.int .i64 (Sc.hi x),.slice A1 (Sc.words x).length cA,.slice B1 (Sc.wts x).length dA] 65)=w5 at *
    rw [hNx] at HK5
    clear hNx c0 c1 c2 c3 c4 c5 c6 c7 d0 d1 d2 d3 d4 d5 d6 d7
    have hb6:Below w5.heap.size w5 (w5.alloc (.cells #[.string (Sc.nm y),.string (Sc.of_ y),.string (Sc.up y),.int .i64 (Sc.kd y),.int .i64 (Sc.lo y),.int .i64 (Sc.hi y),.slice A2 (Sc.words y).length cB,.slice B2 (Sc.wts y).length dB] 65)):=(Below.refl _ _).alloc (ag _) _
    have HK6:=aI (show Blk (w5.alloc (.cells #[.string (Sc.nm y),.string (Sc.of_ y),.string (Sc.up y),.int .i64 (Sc.kd y),.int .i64 (Sc.lo y),.int .i64 (Sc.hi y),.slice A2 (Sc.words y).length cB,.slice B2 (Sc.wts y).length dB] 65)) w5.heap.size 65 #[.string (Sc.nm y),.string (Sc.of_ y),.string (Sc.up y),.int .i64 (Sc.kd y),.int .i64 (Sc.lo y),.int .i64 (Sc.hi y),.slice A2 (Sc.words y).length cB,.slice B2 (Sc.wts y).length dB] from Blk.new _ _ _)
    have HK7:=aI (HK5.out.below hb6 HK5.out.lt)
    have CE:=aI (sameField_any x y _ _ _ (Mem.keep HR1.out (Chg.of_below hb6)) (Mem.keep HR2.out (Chg.of_below hb6)))
    have HB6:=aI (HB5.out.trans (hb6.mono HB5.out.size))
    obtain ⟨Ny,hNy⟩:=aX w5.heap.size
    clear hb6 HR1 HR2
    go_upto_region 7 with fail
    generalize w5.alloc (.cells #[.string (Sc.nm y),.string (Sc.of_ y),.string (Sc.up y),.int .i64 (Sc.kd y),.int .i64 (Sc.lo y),.int .i64 (Sc.hi y),.slice A2 (Sc.words y).length cB,.slice B2 (Sc.wts y).length dB] 65)=w6 at *
    rw [hNy] at HK6
    clear hNy e0 e1 e2 e3 e4 e5 e6 e7
    have hk7:=HK7.out;have hk6:=HK6.out
    obtain ⟨z0,z1,z2,z3,z4,z5,z6,z7⟩:=aN8 hk7.cell;simp at z0 z1 z2 z3 z4 z5 z6 z7;obtain ⟨y0,y1,y2,y3,y4,y5,y6,y7⟩:=aN8 hk6.cell;simp at y0 y1 y2 y3 y4 y5 y6 y7
    clear hk7 hk6
    obtain ⟨r,hr⟩:=aX (Sx.sameF x y)
    rw [hr] at CE HP
    clear hr
    replace CE:=aI (show Calls Tryz.prog 62 #[.agg #[.string (Sc.nm x),.string (Sc.of_ x),.string (Sc.up x),.int .i64 (Sc.kd x),.int .i64 (Sc.lo x),.int .i64 (Sc.hi x),.slice A1 (Sc.words x).length cA,.slice B1 (Sc.wts x).length dA],.agg #[.string (Sc.nm y),.string (Sc.of_ y),.string (Sc.up y),.int .i64 (Sc.kd y),.int .i64 (Sc.lo y),.int .i64 (Sc.hi y),.slice A2 (Sc.words y).length cB,.slice B2 (Sc.wts y).length dB]] w6 (BoolP r w6) from CE.out)
    cases r
    ·have HQ:=aI (HBD.out k hkx hky HP.out)
     go_wp2_with (go_at_call 62;(with_reducible refine (CE.out).mono ?_);rintro e w7 ⟨rfl,hb7⟩;have HB7:=aI (HB6.out.trans (hb7.mono HB6.out.size));clear hb7)
     go_ret
     exact ⟨by rw [HQ.out];rfl,HB7.out⟩
    ·go_wp2_with (go_at_call 62;(with_reducible refine (CE.out).mono ?_);rintro e w7 ⟨rfl,hb7⟩;have HB7:=aI (HB6.out.trans (hb7.mono HB6.out.size));clear hb7)
     go_roundg (gk - 1)
     case measure=>omega
     case rel =>
      refine ⟨k+1,by omega,by go_num,HB7.out,fun j h1 h2 hj=>?_⟩
      rcases Nat.lt_or_ge j k with h' | h'
      ·exact HA.out j h1 h2 h'
      ·obtain rfl:j=k:=by omega
       exact HP.out
   ·have k1:¬ (k:Int) < (n:Int):=by omega
    have HQ:=aI (HGD.out (HN.out.trans HM.out.symm) fun j h1 h2=>HA.out j h1 h2 (by rw [HN.out] at h1;omega))
    go_wp2_with fail
    go_ret
    exact ⟨by rw [HQ.out];rfl,HB.out⟩
 ·have HQ:=aI (HLN.out (by rw [HN.out,HM.out];exact hnm))
  have q1:((n:Int) == (m:Int))=false:=beq_eq_false_iff_ne.2 (by omega)
  have q2:((n:Int) != (m:Int))=true:=by rw [bne,q1];rfl
  clear hnm
  go_wp2_with fail
  go_ret
  exact ⟨by rw [HQ.out];rfl,Below.refl _ _⟩
end
section
def Sx.pre {α:Type} (E:α->List UInt8) (acc:List UInt8) (l:List α) (k:Nat):List UInt8:=acc++En.int l.length++((l.take k).map E).flatten
theorem Sx.pre_snoc {α:Type} (E:α->List UInt8) (acc:List UInt8) (l:List α) {k:Nat} (h:k < l.length):Sx.pre E acc l k++E l[k]=Sx.pre E acc l (k+1):=by
 unfold Sx.pre;rw [take_snoc' l k h,List.map_append,List.flatten_append,List.append_assoc];simp
theorem Sx.pre_zero {α:Type} (E:α->List UInt8) (acc:List UInt8) (l:List α):Sx.pre E acc l 0=acc++En.int l.length:=by unfold Sx.pre;simp
theorem Sx.pre_le {α:Type} (E:α->List UInt8) (acc:List UInt8) (l:List α) (k:Nat):(Sx.pre E acc l k).length<=(Sx.pre E acc l l.length).length:=by
 unfold Sx.pre
 have h:(l.map E).flatten=((l.take k).map E).flatten++((l.drop k).map E).flatten:=by rw [<-List.flatten_append,<-List.map_append,List.take_append_drop]
 rw [List.take_length,h]
 simp only [aK];omega
def rtLF:Value:=.func (.func 44) #[] #[]
theorem listF_any {wb:World} {M:List Nat} {bx:List Box} {L:List (List Nat->World->Prop)} (E:Fld->List UInt8) (l:List Fld) (acc:List UInt8) (v:Value) (A:Option Addr) (c:Nat) (w:World) (hT:HRow wb [] M bx L 5 1 v acc.length (byteVals acc) w) (hl:SlAt M w A l)
  (hf:∀ x∈l,∀ us W,Mem.rep [] W x us->Calls Tryz.prog 44 #[.agg us.toArray] W (BytesP (E x) W)) (hm:l.length<=100000) (ht:(Sx.pre E acc l l.length).length<=1000000) :
  Calls Tryz.prog 40 #[v,.slice A l.length c,rtLF] w fun e w'=>∃ v' M',e=.returned v'/\HRow wb [] M' bx L 5 1 v' (Sx.pre E acc l l.length).length (byteVals (Sx.pre E acc l l.length)) w':=by
 obtain ⟨i0,hi,hz0,hz1,hz2⟩:=info_parts infoU8
 have T0:=aI (hT.add (keeps_sl A l) hl)
 have HF:=aI hf
 have HLE:=aI (fun k=>ah (Sx.pre_le E acc l k) ht)
 have HZ:=aI (show acc++En.int l.length=Sx.pre E acc l 0 from (Sx.pre_zero E acc l).symm)
 have CI:=fun W=>int_any (l.length:Int) W (by unfold inI;omega)
 have hle0:=HLE.out 0
 have HZL:=aI (show acc.length+(En.int l.length).length=(Sx.pre E acc l 0).length by rw [Sx.pre_zero,aK])
 obtain ⟨Av,cv,rfl⟩:=own_form hT.own
 obtain ⟨na,hna⟩:=aX acc.length
 obtain ⟨ni,hni⟩:=aX ((En.int l.length).length)
 obtain ⟨n,hn⟩:=aX l.length
 have HN:=aI hn
 unfold BytesP at CI
 rw [hna] at HZL
 rw [<-HZL.out,hni] at hle0
 rw [hni] at CI HZL
 rw [hna] at T0
 rw [hn] at CI hm HZ ⊢
 rw [hna]
 replace CI:=aI CI
 unfold rtLF
 clear hf hT hl ht hna hn hni
 go_enter Tryz.func40,Tryz.ntmps40
 go_wp2_with (first | (go_at_call 17;refine (CI.out _).mono ?_;rintro e w1 ⟨v,rfl,hown,hb⟩;obtain ⟨Ab,cb,rfl⟩:=own_form hown;have T:=aI (T0.out.below hb);have HR_:=aI (reads_own hown);clear hown hb) | (at_builtin;refine wpList_append_row (by rfl) _ _ 35 (by rfl) 5 i0 _ 1 1 Tryz.underlying35 hi hz0 hz1 hz2 rfl (by decide) T.out (by rfl) _ _ ni _ (byteVals (En.int n)) (by rfl) HR_.out (byteVals_one _) (by unfold maxLen;omega) (by omega) ?_;intro v5 w5 M5 h5 _;rw [<-byteVals_append,HZ.out,HZL.out] at h5;replace T:=aI h5;clear h5))
 go_loopg [0,16] n (fun r v i wr=>∃ (k:Nat) (M:List Nat),k+r=n/\i=.int .i64 k/\HRow wb [] M bx ((fun M W=>SlAt M W A l)::L) 5 1 v (Sx.pre E acc l k).length (byteVals (Sx.pre E acc l k)) wr)
 case atStart=>exact ⟨0,_,by omega,rfl,T.out⟩
 case round =>
  clear T
  obtain ⟨k,M,hk,rfl,hH⟩:=hrel
  obtain ⟨wo,rfl⟩:=aY wr
  have T:=aI hH
  clear hH
  by_cases hlt:k < n
  ·have hkl:k < l.length:=by rw [HN.out];exact hlt
   have k0:(0:Int)<=(k:Int):=aa _
   have k1:(k:Int) < (n:Int):=by omega
   obtain ⟨b,o,us,rfl,_,hr,hc⟩:=(T.out.h.fact (.head _)).get k hkl
   have hsn:=Sx.pre_snoc E acc l hkl
   have hle:=HLE.out (k+1)
   have HX:=HF.out _ (List.getElem_mem hkl)
   obtain ⟨x,hx⟩:=aX (l[k])
   rw [hx] at hsn hr HX
   have hr0:=hr
   obtain ⟨A1,cA,B1,dA,rfl,_⟩:=rep_fld hr0
   rw [show Mem.sz (Fld)=8 from rfl] at hc
   obtain ⟨c0,c1,c2,c3,c4,c5,c6,c7⟩:=aG8 (m:=k*8) hc
   obtain ⟨q,hq⟩:=aX ((Sx.pre E acc l k).length)
   obtain ⟨m,hm'⟩:∃ n,(E x).length=n:=⟨_,rfl⟩
   have hqm:q+m=(Sx.pre E acc l (k+1)).length:=by rw [<-hsn,aK,hq,hm']
   have HQM:=aI hqm
   rw [<-hqm] at hle
   have HSN:=aI hsn
   rw [hq] at T
   have hb5:Below wo.heap.size wo (wo.alloc (.cells #[.string (Sc.nm x),.string (Sc.of_ x),.string (Sc.up x),.int .i64 (Sc.kd x),.int .i64 (Sc.lo x),.int .i64 (Sc.hi x),.slice A1 (Sc.words x).length cA,.slice B1 (Sc.wts x).length dA] 65)):=(Below.refl _ _).alloc (ag _) _
   have hk5:Blk (wo.alloc (.cells #[.string (Sc.nm x),.string (Sc.of_ x),.string (Sc.up x),.int .i64 (Sc.kd x),.int .i64 (Sc.lo x),.int .i64 (Sc.hi x),.slice A1 (Sc.words x).length cA,.slice B1 (Sc.wts x).length dA] 65)) wo.heap.size 65 #[.string (Sc.nm x),.string (Sc.of_ x),.string (Sc.up x),.int .i64 (Sc.kd x),.int .i64 (Sc.lo x),.int .i64 (Sc.hi x),.slice A1 (Sc.words x).length cA,.slice B1 (Sc.wts x).length dA]:=Blk.new _ _ _
   have CE:=HX _ _ (Mem.sub (G':=[]) (Mem.keep hr (Chg.of_below hb5)) (fun g hg=>by cases hg))
   unfold BytesP at CE
   rw [hm'] at CE
   replace CE:=aI CE
   have T5:=aI (T.out.below hb5)
   have HK5:=aI hk5
   clear hsn hx hr hr0 hc hq hm' hb5 hk5 hqm HX T
   go_upto_region 5 with fail
   generalize wo.alloc (.cells #[.string (Sc.nm x),.string (Sc.of_ x),.string (Sc.up x),.int .i64 (Sc.kd x),.int .i64 (Sc.lo x),.int .i64 (Sc.hi x),.slice A1 (Sc.words x).length cA,.slice B1 (Sc.wts x).length dA] 65)=w5 at CE T5 HK5 ⊢
   generalize wo.heap.size=N5 at HK5 ⊢
   clear c0 c1 c2 c3 c4 c5 c6 c7
   have hk5:=HK5.out
   obtain ⟨z0,z1,z2,z3,z4,z5,z6,z7⟩:=aN8 hk5.cell;simp at z0 z1 z2 z3 z4 z5 z6 z7
   clear hk5
   go_wp2_with (first | (go_at_call 44;refine (CE.out).mono ?_;rintro e w1 ⟨v,rfl,hown,hb⟩;obtain ⟨Ab,cb,rfl⟩:=own_form hown;have T:=aI (T5.out.below hb);have HR_:=aI (reads_own hown);clear hown hb) | (at_builtin;refine wpList_append_row (by rfl) _ _ 35 (by rfl) 5 i0 _ 1 1 Tryz.underlying35 hi hz0 hz1 hz2 rfl (by decide) T.out (by rfl) _ _ m _ (byteVals (E x)) (by rfl) HR_.out (byteVals_one _) (by unfold maxLen;omega) (by omega) ?_;intro v5 w6 M5 h5 _;rw [<-byteVals_append,HSN.out,HQM.out] at h5;replace T:=aI h5;clear h5))
   go_roundg (gk - 1)
   case measure=>omega
   case rel=>exact ⟨k+1,_,by omega,by go_num,T.out⟩
  ·obtain rfl:k=n:=by omega
   go_wp2_with fail
   go_ret
   exact ⟨_,_,rfl,T.out.less (fun _ h=>.tail _ h)⟩
def rtLK:Value:=.func (.func 39) #[] #[]
theorem listK_any {wb:World} {M:List Nat} {bx:List Box} {L:List (List Nat->World->Prop)} (E:Knd->List UInt8) (l:List Knd) (acc:List UInt8) (v:Value) (A:Option Addr) (c:Nat) (w:World) (hT:HRow wb [] M bx L 5 1 v acc.length (byteVals acc) w) (hl:SlAt M w A l)
  (hf:∀ x∈l,∀ us W,Mem.rep [] W x us->Calls Tryz.prog 39 #[.agg us.toArray] W (BytesP (E x) W)) (hm:l.length<=100000) (ht:(Sx.pre E acc l l.length).length<=1000000) :
  Calls Tryz.prog 38 #[v,.slice A l.length c,rtLK] w fun e w'=>∃ v' M',e=.returned v'/\HRow wb [] M' bx L 5 1 v' (Sx.pre E acc l l.length).length (byteVals (Sx.pre E acc l l.length)) w':=by
 obtain ⟨i0,hi,hz0,hz1,hz2⟩:=info_parts infoU8
 have T0:=aI (hT.add (keeps_sl A l) hl)
 have HF:=aI hf
 have HLE:=aI (fun k=>ah (Sx.pre_le E acc l k) ht)
 have HZ:=aI (show acc++En.int l.length=Sx.pre E acc l 0 from (Sx.pre_zero E acc l).symm)
 have CI:=fun W=>int_any (l.length:Int) W (by unfold inI;omega)
 have hle0:=HLE.out 0
 have HZL:=aI (show acc.length+(En.int l.length).length=(Sx.pre E acc l 0).length by rw [Sx.pre_zero,aK])
 obtain ⟨Av,cv,rfl⟩:=own_form hT.own
 obtain ⟨na,hna⟩:=aX acc.length
 obtain ⟨ni,hni⟩:=aX ((En.int l.length).length)
 obtain ⟨n,hn⟩:=aX l.length
 have HN:=aI hn
 unfold BytesP at CI
 rw [hna] at HZL
 rw [<-HZL.out,hni] at hle0
 rw [hni] at CI HZL
 rw [hna] at T0
 rw [hn] at CI hm HZ ⊢
 rw [hna]
 replace CI:=aI CI
 unfold rtLK
 clear hf hT hl ht hna hn hni
 go_enter Tryz.func38,Tryz.ntmps38
 go_wp2_with (first | (go_at_call 17;refine (CI.out _).mono ?_;rintro e w1 ⟨v,rfl,hown,hb⟩;obtain ⟨Ab,cb,rfl⟩:=own_form hown;have T:=aI (T0.out.below hb);have HR_:=aI (reads_own hown);clear hown hb) | (at_builtin;refine wpList_append_row (by rfl) _ _ 35 (by rfl) 5 i0 _ 1 1 Tryz.underlying35 hi hz0 hz1 hz2 rfl (by decide) T.out (by rfl) _ _ ni _ (byteVals (En.int n)) (by rfl) HR_.out (byteVals_one _) (by unfold maxLen;omega) (by omega) ?_;intro v5 w5 M5 h5 _;rw [<-byteVals_append,HZ.out,HZL.out] at h5;replace T:=aI h5;clear h5))
 go_loopg [0,16] n (fun r v i wr=>∃ (k:Nat) (M:List Nat),k+r=n/\i=.int .i64 k/\HRow wb [] M bx ((fun M W=>SlAt M W A l)::L) 5 1 v (Sx.pre E acc l k).length (byteVals (Sx.pre E acc l k)) wr)
 case atStart=>exact ⟨0,_,by omega,rfl,T.out⟩
 case round =>
  clear T
  obtain ⟨k,M,hk,rfl,hH⟩:=hrel
  obtain ⟨wo,rfl⟩:=aY wr
  have T:=aI hH
  clear hH
  by_cases hlt:k < n
  ·have hkl:k < l.length:=by rw [HN.out];exact hlt
   have k0:(0:Int)<=(k:Int):=aa _
   have k1:(k:Int) < (n:Int):=by omega
   obtain ⟨b,o,us,rfl,_,hr,hc⟩:=(T.out.h.fact (.head _)).get k hkl
   have hsn:=Sx.pre_snoc E acc l hkl
   have hle:=HLE.out (k+1)
   have HX:=HF.out _ (List.getElem_mem hkl)
   obtain ⟨x,hx⟩:=aX (l[k])
   rw [hx] at hsn hr HX
   have hr0:=hr
   obtain ⟨A1,cA,rfl,_⟩:=rep_knd hr0
   rw [show Mem.sz (Knd)=4 from rfl] at hc
   obtain ⟨c0,c1,c2,c3⟩:=aG4 (m:=k*4) hc
   obtain ⟨q,hq⟩:=aX ((Sx.pre E acc l k).length)
   obtain ⟨m,hm'⟩:∃ n,(E x).length=n:=⟨_,rfl⟩
   have hqm:q+m=(Sx.pre E acc l (k+1)).length:=by rw [<-hsn,aK,hq,hm']
   have HQM:=aI hqm
   rw [<-hqm] at hle
   have HSN:=aI hsn
   rw [hq] at T
   have hb5:Below wo.heap.size wo (wo.alloc (.cells #[.string x.1,.int .i64 x.2.1,.int .i64 x.2.2.1,.slice A1 (Sc.flds x).length cA] 52)):=(Below.refl _ _).alloc (ag _) _
   have hk5:Blk (wo.alloc (.cells #[.string x.1,.int .i64 x.2.1,.int .i64 x.2.2.1,.slice A1 (Sc.flds x).length cA] 52)) wo.heap.size 52 #[.string x.1,.int .i64 x.2.1,.int .i64 x.2.2.1,.slice A1 (Sc.flds x).length cA]:=Blk.new _ _ _
   have CE:=HX _ _ (Mem.sub (G':=[]) (Mem.keep hr (Chg.of_below hb5)) (fun g hg=>by cases hg))
   unfold BytesP at CE
   rw [hm'] at CE
   replace CE:=aI CE
   have T5:=aI (T.out.below hb5)
   have HK5:=aI hk5
   clear hsn hx hr hr0 hc hq hm' hb5 hk5 hqm HX T
   go_upto_region 5 with fail
   generalize wo.alloc (.cells #[.string x.1,.int .i64 x.2.1,.int .i64 x.2.2.1,.slice A1 (Sc.flds x).length cA] 52)=w5 at CE T5 HK5 ⊢
   generalize wo.heap.size=N5 at HK5 ⊢
   clear c0 c1 c2 c3
   have hk5:=HK5.out
   obtain ⟨z0,z1,z2,z3⟩:=aN4 hk5.cell;simp at z0 z1 z2 z3
   clear hk5
   go_wp2_with (first | (go_at_call 39;refine (CE.out).mono ?_;rintro e w1 ⟨v,rfl,hown,hb⟩;obtain ⟨Ab,cb,rfl⟩:=own_form hown;have T:=aI (T5.out.below hb);have HR_:=aI (reads_own hown);clear hown hb) | (at_builtin;refine wpList_append_row (by rfl) _ _ 35 (by rfl) 5 i0 _ 1 1 Tryz.underlying35 hi hz0 hz1 hz2 rfl (by decide) T.out (by rfl) _ _ m _ (byteVals (E x)) (by rfl) HR_.out (byteVals_one _) (by unfold maxLen;omega) (by omega) ?_;intro v5 w6 M5 h5 _;rw [<-byteVals_append,HSN.out,HQM.out] at h5;replace T:=aI h5;clear h5))
   go_roundg (gk - 1)
   case measure=>omega
   case rel=>exact ⟨k+1,_,by omega,by go_num,T.out⟩
  ·obtain rfl:k=n:=by omega
   go_wp2_with fail
   go_ret
   exact ⟨_,_,rfl,T.out.less (fun _ h=>.tail _ h)⟩
def rtLL:Value:=.func (.func 46) #[] #[]
theorem listL_any {wb:World} {M:List Nat} {bx:List Box} {L:List (List Nat->World->Prop)} (E:Lif->List UInt8) (l:List Lif) (acc:List UInt8) (v:Value) (A:Option Addr) (c:Nat) (w:World) (hT:HRow wb [] M bx L 5 1 v acc.length (byteVals acc) w) (hl:SlAt M w A l)
  (hf:∀ x∈l,∀ us W,Mem.rep [] W x us->Calls Tryz.prog 46 #[.agg us.toArray] W (BytesP (E x) W)) (hm:l.length<=100000) (ht:(Sx.pre E acc l l.length).length<=1000000) :
  Calls Tryz.prog 45 #[v,.slice A l.length c,rtLL] w fun e w'=>∃ v' M',e=.returned v'/\HRow wb [] M' bx L 5 1 v' (Sx.pre E acc l l.length).length (byteVals (Sx.pre E acc l l.length)) w':=by
 obtain ⟨i0,hi,hz0,hz1,hz2⟩:=info_parts infoU8
 have T0:=aI (hT.add (keeps_sl A l) hl)
 have HF:=aI hf
 have HLE:=aI (fun k=>ah (Sx.pre_le E acc l k) ht)
 have HZ:=aI (show acc++En.int l.length=Sx.pre E acc l 0 from (Sx.pre_zero E acc l).symm)
 have CI:=fun W=>int_any (l.length:Int) W (by unfold inI;omega)
 have hle0:=HLE.out 0
 have HZL:=aI (show acc.length+(En.int l.length).length=(Sx.pre E acc l 0).length by rw [Sx.pre_zero,aK])
 obtain ⟨Av,cv,rfl⟩:=own_form hT.own
 obtain ⟨na,hna⟩:=aX acc.length
 obtain ⟨ni,hni⟩:=aX ((En.int l.length).length)
 obtain ⟨n,hn⟩:=aX l.length
 have HN:=aI hn
 unfold BytesP at CI
 rw [hna] at HZL
 rw [<-HZL.out,hni] at hle0
 rw [hni] at CI HZL
 rw [hna] at T0
 rw [hn] at CI hm HZ ⊢
 rw [hna]
 replace CI:=aI CI
 unfold rtLL
 clear hf hT hl ht hna hn hni
 go_enter Tryz.func45,Tryz.ntmps45
 go_wp2_with (first | (go_at_call 17;refine (CI.out _).mono ?_;rintro e w1 ⟨v,rfl,hown,hb⟩;obtain ⟨Ab,cb,rfl⟩:=own_form hown;have T:=aI (T0.out.below hb);have HR_:=aI (reads_own hown);clear hown hb) | (at_builtin;refine wpList_append_row (by rfl) _ _ 35 (by rfl) 5 i0 _ 1 1 Tryz.underlying35 hi hz0 hz1 hz2 rfl (by decide) T.out (by rfl) _ _ ni _ (byteVals (En.int n)) (by rfl) HR_.out (byteVals_one _) (by unfold maxLen;omega) (by omega) ?_;intro v5 w5 M5 h5 _;rw [<-byteVals_append,HZ.out,HZL.out] at h5;replace T:=aI h5;clear h5))
 go_loopg [0,16] n (fun r v i wr=>∃ (k:Nat) (M:List Nat),k+r=n/\i=.int .i64 k/\HRow wb [] M bx ((fun M W=>SlAt M W A l)::L) 5 1 v (Sx.pre E acc l k).length (byteVals (Sx.pre E acc l k)) wr)
 case atStart=>exact ⟨0,_,by omega,rfl,T.out⟩
 case round =>
  clear T
  obtain ⟨k,M,hk,rfl,hH⟩:=hrel
  obtain ⟨wo,rfl⟩:=aY wr
  have T:=aI hH
  clear hH
  by_cases hlt:k < n
  ·have hkl:k < l.length:=by rw [HN.out];exact hlt
   have k0:(0:Int)<=(k:Int):=aa _
   have k1:(k:Int) < (n:Int):=by omega
   obtain ⟨b,o,us,rfl,_,hr,hc⟩:=(T.out.h.fact (.head _)).get k hkl
   have hsn:=Sx.pre_snoc E acc l hkl
   have hle:=HLE.out (k+1)
   have HX:=HF.out _ (List.getElem_mem hkl)
   obtain ⟨x,hx⟩:=aX (l[k])
   rw [hx] at hsn hr HX
   have hr0:=hr
   obtain ⟨A1,cA,B1,dA,rfl,_⟩:=rep_lif hr0
   rw [show Mem.sz (Lif)=3 from rfl] at hc
   obtain ⟨c0,c1,c2⟩:=aG3 (m:=k*3) hc
   obtain ⟨q,hq⟩:=aX ((Sx.pre E acc l k).length)
   obtain ⟨m,hm'⟩:∃ n,(E x).length=n:=⟨_,rfl⟩
   have hqm:q+m=(Sx.pre E acc l (k+1)).length:=by rw [<-hsn,aK,hq,hm']
   have HQM:=aI hqm
   rw [<-hqm] at hle
   have HSN:=aI hsn
   rw [hq] at T
   have hb5:Below wo.heap.size wo (wo.alloc (.cells #[.string x.1,.slice A1 x.2.1.length cA,.slice B1 x.2.2.length dA] 57)):=(Below.refl _ _).alloc (ag _) _
   have hk5:Blk (wo.alloc (.cells #[.string x.1,.slice A1 x.2.1.length cA,.slice B1 x.2.2.length dA] 57)) wo.heap.size 57 #[.string x.1,.slice A1 x.2.1.length cA,.slice B1 x.2.2.length dA]:=Blk.new _ _ _
   have CE:=HX _ _ (Mem.sub (G':=[]) (Mem.keep hr (Chg.of_below hb5)) (fun g hg=>by cases hg))
   unfold BytesP at CE
   rw [hm'] at CE
   replace CE:=aI CE
   have T5:=aI (T.out.below hb5)
   have HK5:=aI hk5
   clear hsn hx hr hr0 hc hq hm' hb5 hk5 hqm HX T
   go_upto_region 5 with fail
   generalize wo.alloc (.cells #[.string x.1,.slice A1 x.2.1.length cA,.slice B1 x.2.2.length dA] 57)=w5 at CE T5 HK5 ⊢
   generalize wo.heap.size=N5 at HK5 ⊢
   clear c0 c1 c2
   have hk5:=HK5.out
   obtain ⟨z0,z1,z2⟩:=aN3 hk5.cell;simp at z0 z1 z2
   clear hk5
   go_wp2_with (first | (go_at_call 46;refine (CE.out).mono ?_;rintro e w1 ⟨v,rfl,hown,hb⟩;obtain ⟨Ab,cb,rfl⟩:=own_form hown;have T:=aI (T5.out.below hb);have HR_:=aI (reads_own hown);clear hown hb) | (at_builtin;refine wpList_append_row (by rfl) _ _ 35 (by rfl) 5 i0 _ 1 1 Tryz.underlying35 hi hz0 hz1 hz2 rfl (by decide) T.out (by rfl) _ _ m _ (byteVals (E x)) (by rfl) HR_.out (byteVals_one _) (by unfold maxLen;omega) (by omega) ?_;intro v5 w6 M5 h5 _;rw [<-byteVals_append,HSN.out,HQM.out] at h5;replace T:=aI h5;clear h5))
   go_roundg (gk - 1)
   case measure=>omega
   case rel=>exact ⟨k+1,_,by omega,by go_num,T.out⟩
  ·obtain rfl:k=n:=by omega
   go_wp2_with fail
   go_ret
   exact ⟨_,_,rfl,T.out.less (fun _ h=>.tail _ h)⟩
def rtLR:Value:=.func (.func 48) #[] #[]
theorem listR_any {wb:World} {M:List Nat} {bx:List Box} {L:List (List Nat->World->Prop)} (E:Rul->List UInt8) (l:List Rul) (acc:List UInt8) (v:Value) (A:Option Addr) (c:Nat) (w:World) (hT:HRow wb [] M bx L 5 1 v acc.length (byteVals acc) w) (hl:SlAt M w A l)
  (hf:∀ x∈l,∀ us W,Mem.rep [] W x us->Calls Tryz.prog 48 #[.agg us.toArray] W (BytesP (E x) W)) (hm:l.length<=100000) (ht:(Sx.pre E acc l l.length).length<=1000000) :
  Calls Tryz.prog 47 #[v,.slice A l.length c,rtLR] w fun e w'=>∃ v' M',e=.returned v'/\HRow wb [] M' bx L 5 1 v' (Sx.pre E acc l l.length).length (byteVals (Sx.pre E acc l l.length)) w':=by
 obtain ⟨i0,hi,hz0,hz1,hz2⟩:=info_parts infoU8
 have T0:=aI (hT.add (keeps_sl A l) hl)
 have HF:=aI hf
 have HLE:=aI (fun k=>ah (Sx.pre_le E acc l k) ht)
 have HZ:=aI (show acc++En.int l.length=Sx.pre E acc l 0 from (Sx.pre_zero E acc l).symm)
 have CI:=fun W=>int_any (l.length:Int) W (by unfold inI;omega)
 have hle0:=HLE.out 0
 have HZL:=aI (show acc.length+(En.int l.length).length=(Sx.pre E acc l 0).length by rw [Sx.pre_zero,aK])
 obtain ⟨Av,cv,rfl⟩:=own_form hT.own
 obtain ⟨na,hna⟩:=aX acc.length
 obtain ⟨ni,hni⟩:=aX ((En.int l.length).length)
 obtain ⟨n,hn⟩:=aX l.length
 have HN:=aI hn
 unfold BytesP at CI
 rw [hna] at HZL
 rw [<-HZL.out,hni] at hle0
 rw [hni] at CI HZL
 rw [hna] at T0
 rw [hn] at CI hm HZ ⊢
 rw [hna]
 replace CI:=aI CI
 unfold rtLR
 clear hf hT hl ht hna hn hni
 go_enter Tryz.func47,Tryz.ntmps47
 go_wp2_with (first | (go_at_call 17;refine (CI.out _).mono ?_;rintro e w1 ⟨v,rfl,hown,hb⟩;obtain ⟨Ab,cb,rfl⟩:=own_form hown;have T:=aI (T0.out.below hb);have HR_:=aI (reads_own hown);clear hown hb) | (at_builtin;refine wpList_append_row (by rfl) _ _ 35 (by rfl) 5 i0 _ 1 1 Tryz.underlying35 hi hz0 hz1 hz2 rfl (by decide) T.out (by rfl) _ _ ni _ (byteVals (En.int n)) (by rfl) HR_.out (byteVals_one _) (by unfold maxLen;omega) (by omega) ?_;intro v5 w5 M5 h5 _;rw [<-byteVals_append,HZ.out,HZL.out] at h5;replace T:=aI h5;clear h5))
 go_loopg [0,16] n (fun r v i wr=>∃ (k:Nat) (M:List Nat),k+r=n/\i=.int .i64 k/\HRow wb [] M bx ((fun M W=>SlAt M W A l)::L) 5 1 v (Sx.pre E acc l k).length (byteVals (Sx.pre E acc l k)) wr)
 case atStart=>exact ⟨0,_,by omega,rfl,T.out⟩
 case round =>
  clear T
  obtain ⟨k,M,hk,rfl,hH⟩:=hrel
  obtain ⟨wo,rfl⟩:=aY wr
  have T:=aI hH
  clear hH
  by_cases hlt:k < n
  ·have hkl:k < l.length:=by rw [HN.out];exact hlt
   have k0:(0:Int)<=(k:Int):=aa _
   have k1:(k:Int) < (n:Int):=by omega
   obtain ⟨b,o,us,rfl,_,hr,hc⟩:=(T.out.h.fact (.head _)).get k hkl
   have hsn:=Sx.pre_snoc E acc l hkl
   have hle:=HLE.out (k+1)
   have HX:=HF.out _ (List.getElem_mem hkl)
   obtain ⟨x,hx⟩:=aX (l[k])
   rw [hx] at hsn hr HX
   have hr0:=hr
   obtain ⟨rfl,_⟩:=rep_rul hr0
   rw [show Mem.sz (Rul)=5 from rfl] at hc
   obtain ⟨c0,c1,c2,c3,c4⟩:=aG5 (m:=k*5) hc
   obtain ⟨q,hq⟩:=aX ((Sx.pre E acc l k).length)
   obtain ⟨m,hm'⟩:∃ n,(E x).length=n:=⟨_,rfl⟩
   have hqm:q+m=(Sx.pre E acc l (k+1)).length:=by rw [<-hsn,aK,hq,hm']
   have HQM:=aI hqm
   rw [<-hqm] at hle
   have HSN:=aI hsn
   rw [hq] at T
   have hb5:Below wo.heap.size wo (wo.alloc (.cells #[.string x.1,.string x.2.1,.string x.2.2.1,.string x.2.2.2.1,.int .i64 x.2.2.2.2] 60)):=(Below.refl _ _).alloc (ag _) _
   have hk5:Blk (wo.alloc (.cells #[.string x.1,.string x.2.1,.string x.2.2.1,.string x.2.2.2.1,.int .i64 x.2.2.2.2] 60)) wo.heap.size 60 #[.string x.1,.string x.2.1,.string x.2.2.1,.string x.2.2.2.1,.int .i64 x.2.2.2.2]:=Blk.new _ _ _
   have CE:=HX _ _ (Mem.sub (G':=[]) (Mem.keep hr (Chg.of_below hb5)) (fun g hg=>by cases hg))
   unfold BytesP at CE
   rw [hm'] at CE
   replace CE:=aI CE
   have T5:=aI (T.out.below hb5)
   have HK5:=aI hk5
   clear hsn hx hr hr0 hc hq hm' hb5 hk5 hqm HX T
   go_upto_region 5 with fail
   generalize wo.alloc (.cells #[.string x.1,.string x.2.1,.string x.2.2.1,.string x.2.2.2.1,.int .i64 x.2.2.2.2] 60)=w5 at CE T5 HK5 ⊢
   generalize wo.heap.size=N5 at HK5 ⊢
   clear c0 c1 c2 c3 c4
   have hk5:=HK5.out
   obtain ⟨z0,z1,z2,z3,z4⟩:=aN5 hk5.cell;simp at z0 z1 z2 z3 z4
   clear hk5
   go_wp2_with (first | (go_at_call 48;refine (CE.out).mono ?_;rintro e w1 ⟨v,rfl,hown,hb⟩;obtain ⟨Ab,cb,rfl⟩:=own_form hown;have T:=aI (T5.out.below hb);have HR_:=aI (reads_own hown);clear hown hb) | (at_builtin;refine wpList_append_row (by rfl) _ _ 35 (by rfl) 5 i0 _ 1 1 Tryz.underlying35 hi hz0 hz1 hz2 rfl (by decide) T.out (by rfl) _ _ m _ (byteVals (E x)) (by rfl) HR_.out (byteVals_one _) (by unfold maxLen;omega) (by omega) ?_;intro v5 w6 M5 h5 _;rw [<-byteVals_append,HSN.out,HQM.out] at h5;replace T:=aI h5;clear h5))
   go_roundg (gk - 1)
   case measure=>omega
   case rel=>exact ⟨k+1,_,by omega,by go_num,T.out⟩
  ·obtain rfl:k=n:=by omega
   go_wp2_with fail
   go_ret
   exact ⟨_,_,rfl,T.out.less (fun _ h=>.tail _ h)⟩
end
end Go.Proofs.YtobcnhmhgoccnaaGreatDoor
