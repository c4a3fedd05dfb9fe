/- Parts of the proof, joined: ShaW1, ShaW2, ShaW3, ShaW4, ShaW5, ShaW6, SyW1, ShaW7. -/
import Derived.Test.YtobcnhmhgoccnaaGreatDoorV14
import Derived.Test.YtobcnhmhgoccnaaGreatDoorV16
import Derived.Deep.RegionHeld3
set_option maxRecDepth 100000
set_option maxHeartbeats 4000000
set_option linter.unusedVariables false
set_option linter.unusedSimpArgs false
set_option linter.unusedSectionVars false
namespace Go.Proofs.YtobcnhmhgoccnaaGreatDoor
open Go Go.RowKit
section
theorem rotF:∀n:Fin 32,1<=n.val->bits .and .u64 (IntKind.u64.wrap (-((n.val:Nat):Int))) 31=((32 - n.val:Nat):Int):=by decide +kernel
theorem rotl_any (x k:Int) (n:Nat) (h1:1<=n) (h2:n<=31) (hk:k=-(n:Int)) (w:World):Calls Tryz.prog 168 #[.int .u32 x,.int .i64 k] w λe w'=>e=.returned (.int .u32 (Sha.rot x n))/\w=w':=by
 obtain ⟨s,hs⟩:∃s:Nat,32 - n=s:=⟨_,rfl⟩
 have e1:=rotF ⟨n,by omega⟩ h1
 simp only at e1
 rw [hs,<-hk] at e1
 have e2:IntKind.u64.wrap (32 - (s:Int))=(n:Int):=by simp only [IntKind.wrap,IntKind.signed,IntKind.bits];simp;omega
 have s0:(0:Int)<=(s:Int):=by omega
 have s1:(s:Int)<=32:=by omega
 have n0:(0:Int)<=(n:Int):=by omega
 have n1:(n:Int)<=32:=by omega
 have HR:=aI (show bits .or .u32 (IntKind.u32.wrap (x*2 ^ s)) (x / 2 ^ n)=Sha.rot x n from by rw [<-Sha.rot_l];unfold Sha.og Sha.shl;rw [hs])
 clear hk hs h1 h2
 go_enter Tryz.func168,Tryz.ntmps168
 go_wp2_with fail
 go_ret
 exact ⟨ret_int HR.out,rfl⟩
theorem rotr_any (x k:Int) (n:Nat) (h1:1<=n) (h2:n<=31) (hk:k=(n:Int)) (w:World):Calls Tryz.prog 162 #[.int .u32 x,.int .i64 k] w λe w'=>e=.returned (.int .u32 (Sha.rot x n))/\∃m,w'=w.drewN m:=by
 subst hk
 obtain ⟨s,hs⟩:∃s:Nat,32 - n=s:=⟨_,rfl⟩
 have e2:(32:Int) - (n:Int)=(s:Int):=by omega
 have e3:IntKind.i64.wrap (32 - (n:Int))=(s:Int):=by rw [e2];exact wrapI (by unfold inI;omega)
 have s0:(0:Int)<=(s:Int):=by omega
 have s1:(s:Int)<=32:=by omega
 have n0:(0:Int)<=(n:Int):=by omega
 have n1:(n:Int)<=32:=by omega
 have HR:=aI (show bits .or .u32 (x / 2 ^ n) (IntKind.u32.wrap (x*2 ^ s))=Sha.rot x n from by unfold Sha.rot Sha.og Sha.shl;rw [hs])
 clear hs h1 h2
 go_enter Tryz.func162,Tryz.ntmps162
 go_wp2_with fail
 go_quiet (fail)
 go_wp2_with fail
 go_ret
 exact ⟨ret_int HR.out,_,rfl⟩
theorem mix_any (x:Int) (i j k:Int) (a b c:Nat) (hi:i=(a:Int)) (hj:j=(b:Int)) (hk:k=(c:Int)) (h1:1<=a/\a<=31) (h2:1<=b/\b<=31) (h3:1<=c/\c<=31) (w:World):Calls Tryz.prog 153 #[.int .u32 x,.int .i64 i,.int .i64 j,.int .i64 k] w λe w'=>e=.returned (.int .u32 (Sha.mix x a b c))/\w=w':=by
 have e1:IntKind.i64.wrap (-i)=-i:=wrapI (by unfold inI;omega)
 have e2:IntKind.i64.wrap (-j)=-j:=wrapI (by unfold inI;omega)
 have e3:IntKind.i64.wrap (-k)=-k:=wrapI (by unfold inI;omega)
 have C1:=aI (λw=>rotl_any x (-i) a h1.1 h1.2 (by omega) w)
 have C2:=aI (λw=>rotl_any x (-j) b h2.1 h2.2 (by omega) w)
 have C3:=aI (λw=>rotl_any x (-k) c h3.1 h3.2 (by omega) w)
 have HR:=aI (show bits .xor .u32 (bits .xor .u32 (Sha.rot x a) (Sha.rot x b)) (Sha.rot x c)=Sha.mix x a b c from rfl)
 clear hi hj hk h1 h2 h3
 go_enter Tryz.func153,Tryz.ntmps153
 go_wp2_with (first | (go_at_call 168;(with_reducible refine aS (C1.out _) ?_)) | (go_at_call 168;(with_reducible refine aS (C2.out _) ?_)) | (go_at_call 168;(with_reducible refine aS (C3.out _) ?_)))
 go_ret
 exact ⟨ret_int HR.out,rfl⟩
end
section
theorem sizeW64 {X:List Int} (h:X.length=64):(Tryz.prog.info? 178).map (·.size)=some (padW X).size:=by
 rw [padW_size (by omega)];kernel_rfl
theorem padW_one (X:List Int):(padW X).all (·.oneCell')=true:=all_oneCell_toArray λv hv=>by
 rcases zE.1 hv with hv | hv
 .obtain ⟨x,_,rfl⟩:=List.mem_map.1 hv;rfl
 .rw [(List.mem_replicate.1 hv).2];rfl
theorem u8_u32 (x:UInt8):IntKind.u32.wrap (x.toNat:Int)=(x.toNat:Int):=by
 have:=x.toNat_lt
 simp only [IntKind.wrap,IntKind.signed,IntKind.bits];simp;omega
theorem wd_mod (a b c d:UInt8):bits .or .u32 (bits .or .u32 (bits .or .u32 ((a.toNat:Int)*16777216 % 4294967296) ((b.toNat:Int)*65536 % 4294967296)) ((c.toNat:Int)*256 % 4294967296)) (d.toNat:Int)=Sha.wd a b c d:=by
 have h:=Sha.wd_ref a b c d
 unfold Sha.og Sha.shl at h
 simp only [IntKind.wrap,IntKind.signed,IntKind.bits] at h
 simpa using h
theorem padW_at {l:List Int} {t:Nat} (hl:l.length=t) (ht:t < 64):(padW l)[t]?=some (.int .u32 0):=by
 subst hl;rw [padW_zero ht];exact padW_last 0
theorem padW_next {l:List Int} {t:Nat} {y:Int} (hl:l.length=t) (ht:t < 64):(padW l).setIfInBounds t (.int .u32 y)=padW (l++[y]):=by
 subst hl;rw [padW_zero ht];exact padW_set 0 y
theorem gb_cell {M:List Nat} {W:World} {b:List UInt8} {bb oo i:Nat} (h:SlAt M W (some ⟨bb,oo,none⟩) b) (hi:i < b.length):W.cell? ⟨bb,oo+i,none⟩=some (.int .u8 (Sha.gb b i).toNat):=by
 obtain ⟨b',o',hA,_,hc⟩:=byte_at h i hi
 obtain ⟨rfl,rfl⟩:bb=b'/\oo=o':=by injection hA with hA;injection hA with h1 h2;exact ⟨h1,h2⟩
 rw [hc]
 unfold Sha.gb
 rw [List.getD_eq_getElem?_getD,zp hi];rfl
theorem words_any (b:List UInt8) (A:Option Addr) (c:Nat) (w:World) (hs:SlAt [] w A b) (hb:b.length=64) (hc:64<=c) (hm:c<=9223372036854775807):Calls Tryz.prog 161 #[.slice A 64 c] w λe w'=>e=.returned (.agg (wv (Sha.sch b 64)).toArray)/\Below w.heap.size w w':=by
 go_enter Tryz.func161,Tryz.ntmps161
 go_upto_region 1 with fail
 have ez:(#[.int .u32 0,.int .u32 0,.int .u32 0,.int .u32 0,.int .u32 0,.int .u32 0,.int .u32 0,.int .u32 0,.int .u32 0,.int .u32 0,.int .u32 0,.int .u32 0,.int .u32 0,.int .u32 0,.int .u32 0,.int .u32 0,.int .u32 0,.int .u32 0,.int .u32 0,.int .u32 0,.int .u32 0,.int .u32 0,.int .u32 0,.int .u32 0,.int .u32 0,.int .u32 0,.int .u32 0,.int .u32 0,.int .u32 0,.int .u32 0,.int .u32 0,.int .u32 0,.int .u32 0,.int .u32 0,.int .u32 0,.int .u32 0,.int .u32 0,.int .u32 0,.int .u32 0,.int .u32 0,.int .u32 0,.int .u32 0,.int .u32 0,.int .u32 0,.int .u32 0,.int .u32 0,.int .u32 0,.int .u32 0,.int .u32 0,.int .u32 0,.int .u32 0,.int .u32 0,.int .u32 0,.int .u32 0,.int .u32 0,.int .u32 0,.int .u32 0,.int .u32 0,.int .u32 0,.int .u32 0,.int .u32 0,.int .u32 0,.int .u32 0,.int .u32 0]:Array Value)=padW []:=by kernel_rfl
 rw [ez]
 have T1:=aI ((HR.start ((held0 w [] (λ_ h=>by cases h)).add (keeps_sl A b) hs)).new (padW []) 178 rfl)
 generalize w.alloc (.cells (padW []) 178)=W1 at T1 ⊢
 generalize w.heap.size=N0 at T1 ⊢
 go_upto_region 2 with fail
 have T:=aI (T1.out.new (padW []) 178 rfl)
 generalize W1.alloc (.cells (padW []) 178)=W2 at T ⊢
 generalize W1.heap.size=N1 at T ⊢
 clear T1 ez
 obtain ⟨bb,oo,rfl,-,-⟩:=byte_at (T.out.fact (.head _)) 0 (by omega)
 go_wp2_with fail
 go_loopg [4] 16 (λr i wr=>∃t:Nat,t+r=16/\i=.int .i64 t/\HR w [] [N1,N0] [(N1,178,padW (Sha.sch b t)),(N0,178,padW [])] [] [λM W=>SlAt M W (some ⟨bb,oo,none⟩) b] wr)
 case atStart=>exact ⟨0,by omega,rfl,T.out⟩
 case round =>
  clear T
  obtain ⟨t,ht,rfl,hT⟩:=hrel
  obtain ⟨wo,rfl⟩:=aY wr
  have T:=aI hT
  clear hT
  by_cases hlt:t < 16
  .have t0:(0:Int)<=(t:Int):=aa _
   have t1:(t:Int) < 16:=by omega
   have t2:(t:Int) < 64:=by omega
   have c0:=gb_cell (T.out.fact (.head _)) (i:=4*t) (by omega)
   have c1:=gb_cell (T.out.fact (.head _)) (i:=4*t+1) (by omega)
   have c2:=gb_cell (T.out.fact (.head _)) (i:=4*t+2) (by omega)
   have c3:=gb_cell (T.out.fact (.head _)) (i:=4*t+3) (by omega)
   have w0:IntKind.u32.wrap ((Sha.gb b (4*t)).toNat:Int)=((Sha.gb b (4*t)).toNat:Int):=u8_u32 _
   have w1:IntKind.u32.wrap ((Sha.gb b (4*t+1)).toNat:Int)=((Sha.gb b (4*t+1)).toNat:Int):=u8_u32 _
   have w2:IntKind.u32.wrap ((Sha.gb b (4*t+2)).toNat:Int)=((Sha.gb b (4*t+2)).toNat:Int):=u8_u32 _
   have w3:IntKind.u32.wrap ((Sha.gb b (4*t+3)).toNat:Int)=((Sha.gb b (4*t+3)).toNat:Int):=u8_u32 _
   go_wp2_with fail
   clear c0 c1 c2 c3
   apply zy (C:=λw'=>HR w [] [N1,N0] [(N1,178,padW (Sha.sch b t)),(N0,178,padW [])] [] [λM W=>SlAt M W (some ⟨bb,oo,none⟩) b] w') (n:=101) (m:=35) (l1:=[_,_,_,_,_,_,_,_,_,_,_,_,_,_,_,_,_,_,_,_,_,_,_,_,_,_,_,_,_,_,_,_,_,_,_]) (l2:=[_]);rfl;rfl;kernel_rfl;rfl;kernel_rfl;exact T.out.drew;exact λu u' h hb=>(by first | exact h.below hb | exact h.trans (hb.mono h.size))
   iterate 35 ((apply aJ;·(intro w' hC hf;have hf:=hC.fact (.head _);have c0:=gb_cell hf (i:=4*t) (by omega);have c1:=gb_cell hf (i:=4*t+1) (by omega);have c2:=gb_cell hf (i:=4*t+2) (by omega);have c3:=gb_cell hf (i:=4*t+3) (by omega);clear hf;clear hf hC;go_wp2_with (fail);apply aO;simp only [zC];exact rfl));(try simp only [zn]))
   apply wpT_done
   intro w4 hC hall
   clear hall
   rw [wd_mod]
   have z:=(hC.box (.head _)).cell t
   have f:=(hC.box (.head _)).frozen t
   rw [padW_at (Sha.sch_length b t) (by omega)] at z
   have T3:=aI hC
   clear hC T
   go_wp2_with fail
   have T4:=T3.out.set0 t (.int .u32 (Sha.wd (Sha.gb b (4*t)) (Sha.gb b (4*t+1)) (Sha.gb b (4*t+2)) (Sha.gb b (4*t+3))))
   rw [padW_next (Sha.sch_length b t) (by omega),show Sha.sch b t++[Sha.wd (Sha.gb b (4*t)) (Sha.gb b (4*t+1)) (Sha.gb b (4*t+2)) (Sha.gb b (4*t+3))]=Sha.sch b (t+1) by rw [Sha.sch,if_pos hlt];rfl] at T4
   go_roundg (gk - 1)
   case measure=>omega
   case rel=>exact ⟨t+1,by omega,by go_num,T4⟩
  .obtain rfl:t=16:=by omega
   clear ht
   have e16:((16:Nat):Int)=16:=rfl
   rw [e16]
   clear e16
   go_wp2_with fail
   go_loopg [5] 48 (λr i wr=>∃t:Nat,t+r=64/\16<=t/\i=.int .i64 t/\HR w [] [N1,N0] [(N1,178,padW (Sha.sch b t)),(N0,178,padW [])] [] [λM W=>SlAt M W (some ⟨bb,oo,none⟩) b] wr)
   case atStart=>exact ⟨16,by omega,by omega,rfl,T.out⟩
   case round =>
    clear T
    obtain ⟨t,ht,hge,rfl,hT⟩:=hrel
    obtain ⟨wo,rfl⟩:=aY wr
    have T:=aI hT
    clear hT
    by_cases hlt:t < 64
    .have t0:(0:Int)<=(t:Int):=aa _
     have t1:(t:Int) < 64:=by omega
     obtain ⟨p,hp⟩:=aX (t - 15)
     obtain ⟨q,hq⟩:=aX (t - 2)
     obtain ⟨r,hr⟩:=aX (t - 16)
     obtain ⟨s,hs7⟩:=aX (t - 7)
     have ep:(t:Int) - 15=(p:Int):=by omega
     have eqq:(t:Int) - 2=(q:Int):=by omega
     have er:(t:Int) - 16=(r:Int):=by omega
     have es:(t:Int) - 7=(s:Int):=by omega
     have p1:(p:Int) < 64:=by omega
     have q1:(q:Int) < 64:=by omega
     have r1:(r:Int) < 64:=by omega
     have s1:(s:Int) < 64:=by omega
     have vp:IntKind.i64.wrap (p:Int)=(p:Int):=wrapI (by unfold inI;omega)
     have vq:IntKind.i64.wrap (q:Int)=(q:Int):=wrapI (by unfold inI;omega)
     have vr:IntKind.i64.wrap (r:Int)=(r:Int):=wrapI (by unfold inI;omega)
     have vs:IntKind.i64.wrap (s:Int)=(s:Int):=wrapI (by unfold inI;omega)
     have hl:=Sha.sch_length b t
     have HNX:=aI (show Sha.sch b t++[Sha.ad (Sha.ad (Sha.ad (Sha.g (Sha.sch b t) r) (Sha.s0 (Sha.g (Sha.sch b t) p))) (Sha.g (Sha.sch b t) s)) (Sha.s1 (Sha.g (Sha.sch b t) q))]=Sha.sch b (t+1) by rw [Sha.sch,if_neg (by omega),hp,hq,hr,hs7])
     have HC:=aI (λ(W:World) (hB:Blk W N1 178 (padW (Sha.sch b t)))=>show (W.cell? ⟨N1,p,none⟩=some (.int .u32 (Sha.g (Sha.sch b t) p))/\W.cell? ⟨N1,q,none⟩=some (.int .u32 (Sha.g (Sha.sch b t) q)))/\W.cell? ⟨N1,r,none⟩=some (.int .u32 (Sha.g (Sha.sch b t) r))/\W.cell? ⟨N1,s,none⟩=some (.int .u32 (Sha.g (Sha.sch b t) s)) from
      ⟨⟨(hB.cell p).trans (padW_get (by omega)),(hB.cell q).trans (padW_get (by omega))⟩,(hB.cell r).trans (padW_get (by omega)),(hB.cell s).trans (padW_get (by omega))⟩)
     obtain ⟨X,hX⟩:=aX (Sha.sch b t)
     rw [hX] at HNX HC hl
     have T:Hid (HR w [] [N1,N0] [(N1,178,padW X),(N0,178,padW [])] [] [λM W=>SlAt M W (some ⟨bb,oo,none⟩) b] wo):=by rw [<-hX];exact T
     clear hp hq hr hs7 hX
     obtain ⟨xp,hxp⟩:=aX (Sha.g X p)
     obtain ⟨xq,hxq⟩:=aX (Sha.g X q)
     obtain ⟨xr,hxr⟩:=aX (Sha.g X r)
     obtain ⟨xs,hxs⟩:=aX (Sha.g X s)
     rw [hxp,hxq,hxr,hxs] at HNX HC
     clear hxp hxq hxr hxs
     obtain ⟨⟨dp,dq⟩,-⟩:=HC.out wo (T.out.box (.head _))
     have C7:=aI (λ(W:World) n=>Calls.quiet_of (n:=n) (w:=W) (rotr_any xp 7 7 (by omega) (by omega) rfl (W.drewN n)))
     have C18:=aI (λ(W:World) n=>Calls.quiet_of (n:=n) (w:=W) (rotr_any xp 18 18 (by omega) (by omega) rfl (W.drewN n)))
     have C17:=aI (λ(W:World) n=>Calls.quiet_of (n:=n) (w:=W) (rotr_any xq 17 17 (by omega) (by omega) rfl (W.drewN n)))
     have C19:=aI (λ(W:World) n=>Calls.quiet_of (n:=n) (w:=W) (rotr_any xq 19 19 (by omega) (by omega) rfl (W.drewN n)))
     go_wp2_with fail
     go_quiet ((go_at_call 162;first | with_reducible exact C7.out _ _ | with_reducible exact C18.out _ _))
     replace T:=aI (T.out.drewN nq)
     generalize wo.drewN nq=wp at T ⊢
     clear dp dq
     obtain ⟨⟨dp,dq⟩,-⟩:=HC.out wp (T.out.box (.head _))
     go_wp2_with fail
     go_quiet ((go_at_call 162;first | with_reducible exact C17.out _ _ | with_reducible exact C19.out _ _))
     replace T:=aI (T.out.drewN nq)
     generalize wp.drewN nq=wq at T ⊢
     clear dp dq C7 C18 C17 C19
     have HS0:bits .xor .u32 (bits .xor .u32 (Sha.rot xp 7) (Sha.rot xp 18)) (xp / 8)=Sha.s0 xp:=rfl
     have HS1:bits .xor .u32 (bits .xor .u32 (Sha.rot xq 17) (Sha.rot xq 19)) (xq / 1024)=Sha.s1 xq:=rfl
     rw [HS0,HS1]
     clear HS0 HS1
     obtain ⟨x0,hx0⟩:=aX (Sha.s0 xp)
     obtain ⟨x1,hx1⟩:=aX (Sha.s1 xq)
     rw [hx0,hx1] at HNX ⊢
     clear hx0 hx1
     go_wp2_with fail
     apply zy (C:=λw'=>HR w [] [N1,N0] [(N1,178,padW X),(N0,178,padW [])] [] [λM W=>SlAt M W (some ⟨bb,oo,none⟩) b] w') (n:=101) (m:=15) (l1:=[_,_,_,_,_,_,_,_,_,_,_,_,_,_,_]) (l2:=[_]);rfl;rfl;kernel_rfl;rfl;kernel_rfl;exact T.out.drew;exact λu u' h hb=>(by first | exact h.below hb | exact h.trans (hb.mono h.size))
     iterate 15 ((apply aJ;·(intro w' hC hf;obtain ⟨-,dr,ds⟩:=HC.out _ (hC.box (.head _));clear hf hC;go_wp2_with (fail);apply aO;simp only [zC];exact rfl));(try simp only [zn]))
     apply wpT_done
     intro w4 hC hall
     clear hall
     have z:=(hC.box (.head _)).cell t
     have f:=(hC.box (.head _)).frozen t
     rw [padW_at hl (by omega)] at z
     have T3:=aI hC
     clear hC T
     go_wp2_with fail
     have T4:=T3.out.set0 t (.int .u32 ((xr+x0+xs+x1) % 4294967296))
     rw [padW_next hl (by omega),<-Sha.ad4,HNX.out] at T4
     rw [<-Sha.ad4]
     go_roundg (gk - 1)
     case measure=>omega
     case rel=>exact ⟨t+1,by omega,by omega,by go_num,T4⟩
    .obtain rfl:t=64:=by omega
     obtain ⟨X,hX⟩:=aX (Sha.sch b 64)
     have hl:=Sha.sch_length b 64
     rw [hX] at hl T
     have HX:=aI hX
     clear hX
     go_upto_region 12 with fail
     refine wp_region_lit ?_
     refine wpList_load_row rfl 178 (.tmp 3) rfl N1 rfl 178 (padW X) (0,0) _ (T.out.box (.head _)) Tryz.underlying178 rfl (sizeW64 hl) ?_;(try simp only [zn])
     refine wpList_store_row rfl 178 (.tmp 2) (.tmp 100) rfl N0 (padW X) rfl rfl 178 (padW []) (T.out.box (.tail _ (.head _))) (sizeW64 hl) ((padW_size (l:=[]) (by decide)).trans (padW_size (by omega)).symm) (padW_one X) ?_
     have T5:=aI (T.out.bswap.setAll (padW X))
     generalize wo.setRow N0 (padW X)=W9 at T5 ⊢
     go_wp2_with fail
     exact zi (v:=.agg (padW X)) (results_cell_row Tryz.results161 _ _ _ _ _ _ _ rfl (T5.out.box (.head _)) Tryz.underlying178 rfl (sizeW64 hl)) rfl ⟨by rw [padW_full hl,HX.out],T5.out.h.bl⟩
namespace Sha
def part (b:List UInt8) (t:Nat):Nat->Nat
 | 0=>0
 | j+1=>part b t j*256+(gb b (4*t+j)).toNat
theorem part_lt (b:List UInt8) (t:Nat):∀j,part b t j < 256 ^ j
 | 0=>by simp [part]
 | j+1=>by
  have:=part_lt b t j
  have:=(gb b (4*t+j)).toNat_lt
  rw [part,Nat.pow_succ];omega
theorem part_word (b:List UInt8) (t:Nat):((part b t 4:Nat):Int)=word b t:=by
 unfold word wd
 simp only [part,zW]
 omega
end Sha
theorem part_step (b:List UInt8) (t j:Nat) (h:j < 4):bits .or .u32 (((Sha.part b t j:Nat):Int)*256 % 4294967296) ((Sha.gb b (4*t+j)).toNat:Int)=((Sha.part b t (j+1):Nat):Int):=by
 have hp:=Sha.part_lt b t j
 have hq:256 ^ j<=256 ^ 3:=Nat.pow_le_pow_right (by omega) (by omega)
 have h1:=Sha.wd_step (Sha.part b t j) (Sha.gb b (4*t+j)) (by omega)
 unfold Sha.og Sha.shl at h1
 simp only [IntKind.wrap,IntKind.signed,IntKind.bits] at h1
 rw [Sha.part]
 simpa using h1
theorem schedule_any (b:List UInt8) (A:Option Addr) (c:Nat) (w:World) (hs:SlAt [] w A b) (hb:b.length=64) (hc:64<=c) (hm:c<=9223372036854775807):Calls Tryz.prog 152 #[.slice A 64 c] w λe w'=>e=.returned (.agg (wv (Sha.sch b 64)).toArray)/\Below w.heap.size w w':=by
 go_enter Tryz.func152,Tryz.ntmps152
 go_upto_region 1 with fail
 have ez:(#[.int .u32 0,.int .u32 0,.int .u32 0,.int .u32 0,.int .u32 0,.int .u32 0,.int .u32 0,.int .u32 0,.int .u32 0,.int .u32 0,.int .u32 0,.int .u32 0,.int .u32 0,.int .u32 0,.int .u32 0,.int .u32 0,.int .u32 0,.int .u32 0,.int .u32 0,.int .u32 0,.int .u32 0,.int .u32 0,.int .u32 0,.int .u32 0,.int .u32 0,.int .u32 0,.int .u32 0,.int .u32 0,.int .u32 0,.int .u32 0,.int .u32 0,.int .u32 0,.int .u32 0,.int .u32 0,.int .u32 0,.int .u32 0,.int .u32 0,.int .u32 0,.int .u32 0,.int .u32 0,.int .u32 0,.int .u32 0,.int .u32 0,.int .u32 0,.int .u32 0,.int .u32 0,.int .u32 0,.int .u32 0,.int .u32 0,.int .u32 0,.int .u32 0,.int .u32 0,.int .u32 0,.int .u32 0,.int .u32 0,.int .u32 0,.int .u32 0,.int .u32 0,.int .u32 0,.int .u32 0,.int .u32 0,.int .u32 0,.int .u32 0,.int .u32 0]:Array Value)=padW []:=by kernel_rfl
 rw [ez]
 have T1:=aI ((HR.start ((held0 w [] (λ_ h=>by cases h)).add (keeps_sl A b) hs)).new (padW []) 178 rfl)
 generalize w.alloc (.cells (padW []) 178)=W1 at T1 ⊢
 generalize w.heap.size=N0 at T1 ⊢
 go_upto_region 2 with fail
 have T:=aI (T1.out.new (padW []) 178 rfl)
 generalize W1.alloc (.cells (padW []) 178)=W2 at T ⊢
 generalize W1.heap.size=N1 at T ⊢
 clear T1 ez
 obtain ⟨bb,oo,rfl,-,-⟩:=byte_at (T.out.fact (.head _)) 0 (by omega)
 go_wp2_with fail
 go_loopg [11] 64 (λr i wr=>∃t:Nat,t+r=64/\i=.int .i64 t/\HR w [] [N1,N0] [(N1,178,padW (Sha.sch b t)),(N0,178,padW [])] [] [λM W=>SlAt M W (some ⟨bb,oo,none⟩) b] wr)
 case atStart=>exact ⟨0,by omega,rfl,T.out⟩
 case round =>
  clear T
  obtain ⟨t,ht,rfl,hT⟩:=hrel
  obtain ⟨wo,rfl⟩:=aY wr
  obtain ⟨gq,rfl⟩:=aY gk
  have T:=aI hT
  clear hT
  by_cases hlt:t < 64
  .have t0:(0:Int)<=(t:Int):=aa _
   have t1:(t:Int) < 64:=by omega
   by_cases h16:t < 16
   .have t2:(t:Int) < 16:=by omega
    have hl:=Sha.sch_length b t
    have HWD:=aI (show Sha.sch b t++[((Sha.part b t 4:Nat):Int)]=Sha.sch b (t+1) by rw [Sha.sch,if_pos h16,Sha.part_word])
    have T9:=aI (show HR w [] [N1,N0] [(N1,178,padW (Sha.sch b t++[((Sha.part b t 0:Nat):Int)])),(N0,178,padW [])] [] [λM W=>SlAt M W (some ⟨bb,oo,none⟩) b] wo by have:=T.out;rw [padW_zero (by omega)] at this;exact this)
    clear T
    go_wp2_with fail
    have e4:4*t+4 - 4*t=4:=by omega
    rw [e4]
    clear e4
    go_loopg [24] 4 (λr i wr=>∃j:Nat,j+r=4/\i=.int .i64 j/\HR w [] [N1,N0] [(N1,178,padW (Sha.sch b t++[((Sha.part b t j:Nat):Int)])),(N0,178,padW [])] [] [λM W=>SlAt M W (some ⟨bb,oo,none⟩) b] wr)
    case atStart=>exact ⟨0,by omega,rfl,T9.out⟩
    case round =>
     clear T9
     obtain ⟨j,hj,rfl,hT⟩:=hrel
     obtain ⟨wi,rfl⟩:=aY wr
     have T:=aI hT
     clear hT
     by_cases hlj:j < 4
     .have j0:(0:Int)<=(j:Int):=aa _
      have j1:(j:Int) < 4:=by omega
      have c0:=gb_cell (T.out.fact (.head _)) (i:=4*t+j) (by omega)
      rw [<-Nat.add_assoc] at c0
      have z:=(T.out.box (.head _)).cell t
      have f:=(T.out.box (.head _)).frozen t
      have zz:=padW_last (l:=Sha.sch b t) ((Sha.part b t j:Nat):Int)
      rw [hl] at zz
      rw [zz] at z
      have w0:IntKind.u32.wrap ((Sha.gb b (4*t+j)).toNat:Int)=((Sha.gb b (4*t+j)).toNat:Int):=u8_u32 _
      have HP:=aI (part_step b t j hlj)
      generalize hx:(Sha.gb b (4*t+j)).toNat=x at *
      generalize hy:Sha.part b t j=y at *
      clear zz hx hy
      go_wp2_with fail
      rw [HP.out]
      have T4:=T.out.set0 t (.int .u32 ((Sha.part b t (j+1):Nat):Int))
      have zz:=padW_set (l:=Sha.sch b t) ((y:Nat):Int) ((Sha.part b t (j+1):Nat):Int)
      rw [hl] at zz
      rw [zz] at T4
      go_roundg (gk - 1)
      case measure=>omega
      case rel=>exact ⟨j+1,by omega,by go_num,T4⟩
     .obtain rfl:j=4:=by omega
      rw [HWD.out] at T
      go_wp2_with fail
      go_roundg (gq - 1)
      case measure=>omega
      case rel=>exact ⟨t+1,by omega,by go_num,T.out⟩
   .have t2:¬(t:Int) < 16:=by omega
    obtain ⟨p,hp⟩:=aX (t - 15)
    obtain ⟨q,hq⟩:=aX (t - 2)
    obtain ⟨r,hr⟩:=aX (t - 16)
    obtain ⟨s,hs7⟩:=aX (t - 7)
    have ep:(t:Int) - 15=(p:Int):=by omega
    have eqq:(t:Int) - 2=(q:Int):=by omega
    have er:(t:Int) - 16=(r:Int):=by omega
    have es:(t:Int) - 7=(s:Int):=by omega
    have p1:(p:Int) < 64:=by omega
    have q1:(q:Int) < 64:=by omega
    have r1:(r:Int) < 64:=by omega
    have s1:(s:Int) < 64:=by omega
    have vp:IntKind.i64.wrap (p:Int)=(p:Int):=wrapI (by unfold inI;omega)
    have vq:IntKind.i64.wrap (q:Int)=(q:Int):=wrapI (by unfold inI;omega)
    have vr:IntKind.i64.wrap (r:Int)=(r:Int):=wrapI (by unfold inI;omega)
    have vs:IntKind.i64.wrap (s:Int)=(s:Int):=wrapI (by unfold inI;omega)
    have hl:=Sha.sch_length b t
    have HNX:=aI (show Sha.sch b t++[Sha.ad (Sha.ad (Sha.ad (Sha.g (Sha.sch b t) r) (Sha.s0 (Sha.g (Sha.sch b t) p))) (Sha.g (Sha.sch b t) s)) (Sha.s1 (Sha.g (Sha.sch b t) q))]=Sha.sch b (t+1) by rw [Sha.sch,if_neg (by omega),hp,hq,hr,hs7])
    have HC:=aI (λ(W:World) (hB:Blk W N1 178 (padW (Sha.sch b t)))=>show (W.cell? ⟨N1,p,none⟩=some (.int .u32 (Sha.g (Sha.sch b t) p))/\W.cell? ⟨N1,q,none⟩=some (.int .u32 (Sha.g (Sha.sch b t) q)))/\W.cell? ⟨N1,r,none⟩=some (.int .u32 (Sha.g (Sha.sch b t) r))/\W.cell? ⟨N1,s,none⟩=some (.int .u32 (Sha.g (Sha.sch b t) s)) from
     ⟨⟨(hB.cell p).trans (padW_get (by omega)),(hB.cell q).trans (padW_get (by omega))⟩,(hB.cell r).trans (padW_get (by omega)),(hB.cell s).trans (padW_get (by omega))⟩)
    obtain ⟨X,hX⟩:=aX (Sha.sch b t)
    rw [hX] at HNX HC hl
    have T:Hid (HR w [] [N1,N0] [(N1,178,padW X),(N0,178,padW [])] [] [λM W=>SlAt M W (some ⟨bb,oo,none⟩) b] wo):=by rw [<-hX];exact T
    clear hp hq hr hs7 hX
    obtain ⟨xp,hxp⟩:=aX (Sha.g X p)
    obtain ⟨xq,hxq⟩:=aX (Sha.g X q)
    obtain ⟨xr,hxr⟩:=aX (Sha.g X r)
    obtain ⟨xs,hxs⟩:=aX (Sha.g X s)
    rw [hxp,hxq,hxr,hxs] at HNX HC
    clear hxp hxq hxr hxs
    obtain ⟨⟨dp,dq⟩,-⟩:=HC.out wo (T.out.box (.head _))
    have C7:=aI (λ(W:World)=>rotl_any xp (-7) 7 (by omega) (by omega) rfl W)
    have C18:=aI (λ(W:World)=>rotl_any xp (-18) 18 (by omega) (by omega) rfl W)
    have C17:=aI (λ(W:World)=>rotl_any xq (-17) 17 (by omega) (by omega) rfl W)
    have C19:=aI (λ(W:World)=>rotl_any xq (-19) 19 (by omega) (by omega) rfl W)
    go_wp2_with fail
    go_quiet (fail)
    replace T:=aI (T.out.drewN nq)
    generalize wo.drewN nq=wp at T ⊢
    clear dp dq
    go_upto_region 14 with (first | (go_at_call 168;(with_reducible refine aS (C7.out _) ?_)) | (go_at_call 168;(with_reducible refine aS (C18.out _) ?_)) | (go_at_call 168;(with_reducible refine aS (C17.out _) ?_)) | (go_at_call 168;(with_reducible refine aS (C19.out _) ?_)))
    clear C7 C18 C17 C19
    have HS0:bits .xor .u32 (bits .xor .u32 (Sha.rot xp 7) (Sha.rot xp 18)) (xp / 8)=Sha.s0 xp:=rfl
    have HS1:bits .xor .u32 (bits .xor .u32 (Sha.rot xq 17) (Sha.rot xq 19)) (xq / 1024)=Sha.s1 xq:=rfl
    rw [HS0,HS1]
    clear HS0 HS1
    obtain ⟨x0,hx0⟩:=aX (Sha.s0 xp)
    obtain ⟨x1,hx1⟩:=aX (Sha.s1 xq)
    rw [hx0,hx1] at HNX ⊢
    clear hx0 hx1
    go_wp2_with fail
    apply zy (C:=λw'=>HR w [] [N1,N0] [(N1,178,padW X),(N0,178,padW [])] [] [λM W=>SlAt M W (some ⟨bb,oo,none⟩) b] w') (n:=79) (m:=15) (l1:=[_,_,_,_,_,_,_,_,_,_,_,_,_,_,_]) (l2:=[_]);rfl;rfl;kernel_rfl;rfl;kernel_rfl;exact T.out.drew;exact λu u' h hb=>(by first | exact h.below hb | exact h.trans (hb.mono h.size))
    iterate 15 ((apply aJ;·(intro w' hC hf;obtain ⟨-,dr,ds⟩:=HC.out _ (hC.box (.head _));clear hf hC;go_wp2_with (fail);apply aO;simp only [zC];exact rfl));(try simp only [zn]))
    apply wpT_done
    intro w4 hC hall
    clear hall
    have z:=(hC.box (.head _)).cell t
    have f:=(hC.box (.head _)).frozen t
    rw [padW_at hl (by omega)] at z
    have T3:=aI hC
    clear hC T
    go_wp2_with fail
    have T4:=T3.out.set0 t (.int .u32 ((xr+x0+xs+x1) % 4294967296))
    rw [padW_next hl (by omega),<-Sha.ad4,HNX.out] at T4
    rw [<-Sha.ad4]
    go_roundg (gq - 1)
    case measure=>omega
    case rel=>exact ⟨t+1,by omega,by go_num,T4⟩
  .obtain rfl:t=64:=by omega
   obtain ⟨X,hX⟩:=aX (Sha.sch b 64)
   have hl:=Sha.sch_length b 64
   rw [hX] at hl T
   have HX:=aI hX
   clear hX
   go_upto_region 16 with fail
   refine wp_region_lit ?_
   refine wpList_load_row rfl 178 (.tmp 3) rfl N1 rfl 178 (padW X) (0,0) _ (T.out.box (.head _)) Tryz.underlying178 rfl (sizeW64 hl) ?_;(try simp only [zn])
   refine wpList_store_row rfl 178 (.tmp 2) (.tmp 78) rfl N0 (padW X) rfl rfl 178 (padW []) (T.out.box (.tail _ (.head _))) (sizeW64 hl) ((padW_size (l:=[]) (by decide)).trans (padW_size (by omega)).symm) (padW_one X) ?_
   have T5:=aI (T.out.bswap.setAll (padW X))
   generalize wo.setRow N0 (padW X)=W9 at T5 ⊢
   go_wp2_with fail
   exact zi (v:=.agg (padW X)) (results_cell_row Tryz.results152 _ _ _ _ _ _ _ rfl (T5.out.box (.head _)) Tryz.underlying178 rfl (sizeW64 hl)) rfl ⟨by rw [padW_full hl,HX.out],T5.out.h.bl⟩
@[reducible] def Sha.St.v (s:Sha.St):Array Value:=#[.int .u32 s.a,.int .u32 s.b,.int .u32 s.c,.int .u32 s.d,.int .u32 s.e,.int .u32 s.f,.int .u32 s.g,.int .u32 s.h]
def KEnv (w:World):Prop:=w.rangeAt 1 0 (wv Sha.KK)
theorem KEnv.to {w w':World} (h:KEnv w) (hb:Below w.heap.size w w'):KEnv w':=λj v hv=>(hb.cell (zc _ _ (h j v hv))).trans (h j v hv)
theorem below_drewS (w:World):Below w.heap.size w w.drew:=⟨rfl,rfl,rfl,ag _,λ_ _=>rfl⟩
section
variable {w W:World} {G M:List Nat} {bx:List Box} {rs:List Rw} {L:List (List Nat->World->Prop)} {t:TypeId} {A B:Array Value}
theorem HR.four {N:Nat} {a0 a1 a2 a3 z0 z1 z2 z3:Value} (h:HR w G M ((N,t,#[z0,z1,z2,z3])::bx) rs L W):HR w G M ((N,t,#[a0,a1,a2,a3])::bx) rs L ((((W.setCell ⟨N,0,none⟩ a0).setCell ⟨N,1,none⟩ a1).setCell ⟨N,2,none⟩ a2).setCell ⟨N,3,none⟩ a3):=by
 have h4:=(((h.set0 0 a0).set0 1 a1).set0 2 a2).set0 3 a3
 simp only [aB,aF,aG] at h4
 exact h4
theorem two_a (h:HR w G M bx rs L W):HR w G ((W.heap.size+1)::W.heap.size::M) ((W.heap.size,t,A)::(W.heap.size+1,t,B)::bx) rs L ((W.alloc (.cells A t)).alloc (.cells B t)).drew :=
 ((h.new A t rfl).new B t (N:=W.heap.size+1) (by simp)).bswap.drew
theorem two_b (h:HR w G M bx rs L W):HR w G ((W.heap.size+1)::W.heap.size::M) ((W.heap.size+1,t,A)::(W.heap.size,t,B)::bx) rs L ((W.alloc (.cells B t)).alloc (.cells A t)).drew :=
 ((h.new B t rfl).new A t (N:=W.heap.size+1) (by simp)).drew
end
def Sha.pv (s V:Sha.St) (i:Nat):Array Value:=#[.int .u32 (if 0 < i then Sha.ad s.a V.a else s.a),.int .u32 (if 1 < i then Sha.ad s.b V.b else s.b),.int .u32 (if 2 < i then Sha.ad s.c V.c else s.c),.int .u32 (if 3 < i then Sha.ad s.d V.d else s.d),.int .u32 (if 0 < i then Sha.ad s.e V.e else s.e),.int .u32 (if 1 < i then Sha.ad s.f V.f else s.f),.int .u32 (if 2 < i then Sha.ad s.g V.g else s.g),.int .u32 (if 3 < i then Sha.ad s.h V.h else s.h)]
theorem Sha.pv_one (s V:Sha.St) (i:Nat):(Sha.pv s V i).all (·.oneCell')=true:=by simp [Sha.pv,Value.oneCell']
theorem Sha.pv_step (s V:Sha.St) (i:Nat) (hi:i < 4):∃p q r u:Int,(Sha.pv s V i)[i]?=some (.int .u32 p)/\(Sha.pv s V i)[i+4]?=some (.int .u32 q)/\(#[Value.int .u32 V.a,.int .u32 V.b,.int .u32 V.c,.int .u32 V.d])[i]?=some (.int .u32 r)/\(#[Value.int .u32 V.e,.int .u32 V.f,.int .u32 V.g,.int .u32 V.h])[i]?=some (.int .u32 u) /\
  ((Sha.pv s V i).setIfInBounds i (.int .u32 (Sha.ad p r))).setIfInBounds (i+4) (.int .u32 (Sha.ad q u))=Sha.pv s V (i+1):=by
 match i,hi with
 | 0,_=>exact ⟨s.a,s.e,V.a,V.e,rfl,rfl,rfl,rfl,rfl⟩
 | 1,_=>exact ⟨s.b,s.f,V.b,V.f,rfl,rfl,rfl,rfl,rfl⟩
 | 2,_=>exact ⟨s.c,s.g,V.c,V.g,rfl,rfl,rfl,rfl,rfl⟩
 | 3,_=>exact ⟨s.d,s.h,V.d,V.h,rfl,rfl,rfl,rfl,rfl⟩
theorem compress_any (s:Sha.St) (b:List UInt8) (A:Option Addr) (c:Nat) (w:World) (hs:SlAt [] w A b) (hb:b.length=64) (hc:64<=c) (hm:c<=9223372036854775807) (hk:KEnv w):Calls Tryz.prog 110 #[.agg s.v,.slice A 64 c] w λe w'=>e=.returned (.agg (Sha.comp s b).v)/\Below w.heap.size w w':=by
 obtain ⟨sa,sb,sc,sd,se,sf,sg,sh⟩:=s
 obtain ⟨X,hX⟩:=aX (Sha.sch b 64)
 have hl:=Sha.sch_length b 64
 rw [hX] at hl
 have CS:=aI (λ(W:World) (h:SlAt [] W A b)=>schedule_any b A c W h hb hc hm)
 rw [hX] at CS
 show Calls Tryz.prog 110 #[.agg #[.int .u32 sa,.int .u32 sb,.int .u32 sc,.int .u32 sd,.int .u32 se,.int .u32 sf,.int .u32 sg,.int .u32 sh],.slice A 64 c] w _
 have HS:=aI hs
 have HX:=aI hX
 clear hs hX
 go_enter Tryz.func110,Tryz.ntmps110
 go_upto_region 1 with fail
 have ez:(#[.int .u32 0,.int .u32 0,.int .u32 0,.int .u32 0,.int .u32 0,.int .u32 0,.int .u32 0,.int .u32 0,.int .u32 0,.int .u32 0,.int .u32 0,.int .u32 0,.int .u32 0,.int .u32 0,.int .u32 0,.int .u32 0,.int .u32 0,.int .u32 0,.int .u32 0,.int .u32 0,.int .u32 0,.int .u32 0,.int .u32 0,.int .u32 0,.int .u32 0,.int .u32 0,.int .u32 0,.int .u32 0,.int .u32 0,.int .u32 0,.int .u32 0,.int .u32 0,.int .u32 0,.int .u32 0,.int .u32 0,.int .u32 0,.int .u32 0,.int .u32 0,.int .u32 0,.int .u32 0,.int .u32 0,.int .u32 0,.int .u32 0,.int .u32 0,.int .u32 0,.int .u32 0,.int .u32 0,.int .u32 0,.int .u32 0,.int .u32 0,.int .u32 0,.int .u32 0,.int .u32 0,.int .u32 0,.int .u32 0,.int .u32 0,.int .u32 0,.int .u32 0,.int .u32 0,.int .u32 0,.int .u32 0,.int .u32 0,.int .u32 0,.int .u32 0]:Array Value)=padW []:=by kernel_rfl
 have T:=aI (((HR.start ((held0 w [] (λ_ h=>by cases h)).add (keeps_sl A b) HS.out)).new #[.int .u32 sa,.int .u32 sb,.int .u32 sc,.int .u32 sd,.int .u32 se,.int .u32 sf,.int .u32 sg,.int .u32 sh] 91 rfl).new #[.int .u32 0,.int .u32 0,.int .u32 0,.int .u32 0,.int .u32 0,.int .u32 0,.int .u32 0,.int .u32 0] 91 rfl)
 have hN1:(w.alloc (.cells #[.int .u32 sa,.int .u32 sb,.int .u32 sc,.int .u32 sd,.int .u32 se,.int .u32 sf,.int .u32 sg,.int .u32 sh] 91)).heap.size=w.heap.size+1:=by simp
 rw [hN1] at T
 clear hN1
 generalize (w.alloc (.cells #[.int .u32 sa,.int .u32 sb,.int .u32 sc,.int .u32 sd,.int .u32 se,.int .u32 sf,.int .u32 sg,.int .u32 sh] 91)).alloc (.cells #[.int .u32 0,.int .u32 0,.int .u32 0,.int .u32 0,.int .u32 0,.int .u32 0,.int .u32 0,.int .u32 0] 91)=W1 at T ⊢
 generalize w.heap.size+1=N4 at T ⊢
 generalize w.heap.size=N2 at T ⊢
 have hsz:(Tryz.prog.info? 178).map (·.size)=some (wv X).toArray.size:=by rw [zS,wv_length,hl];kernel_rfl
 have HSZ:=aI hsz
 clear hsz
 have hzz:(padW []).size=(wv X).toArray.size:=(padW_size (l:=[]) (by decide)).trans (by rw [zS,wv_length,hl])
 have HZZ:=aI hzz
 clear hzz
 go_upto_region 2 with (first | (go_at_call 152;refine (CS.out _ ((T.out.fact (.head _)).sub (λg hg=>by cases hg))).mono ?_;rintro e w1 ⟨rfl,hb1⟩;replace T:=aI (T.out.below hb1);clear hb1) | (refine wpList_store_last rfl 178 (.tmp 5) (.tmp 14) rfl (wv X).toArray rfl rfl HZZ.out HSZ.out (wv_one X) ?_;(try simp only [zn])))
 have T5:=aI (T.out.new (wv X).toArray 178 rfl)
 generalize w1.alloc (.cells (wv X).toArray 178)=W5 at T5 ⊢
 generalize w1.heap.size=N5 at T5 ⊢
 clear T HSZ HZZ ez CS HS
 have E:=aI (λ(w':World) (h:Below W5.heap.size W5 w')=>show w'.cell? ⟨N2,0,none⟩=some (.int .u32 sa)/\w'.cell? ⟨N2,1,none⟩=some (.int .u32 sb)/\w'.cell? ⟨N2,2,none⟩=some (.int .u32 sc)/\w'.cell? ⟨N2,3,none⟩=some (.int .u32 sd)/\w'.cell? ⟨N2,4,none⟩=some (.int .u32 se)/\w'.cell? ⟨N2,5,none⟩=some (.int .u32 sf)/\w'.cell? ⟨N2,6,none⟩=some (.int .u32 sg)/\w'.cell? ⟨N2,7,none⟩=some (.int .u32 sh) from by
  have q:=(T5.out.below h).box (.tail _ (.tail _ (.head _)))
  exact ⟨q.cell 0,q.cell 1,q.cell 2,q.cell 3,q.cell 4,q.cell 5,q.cell 6,q.cell 7⟩)
 have P1:=λw':World=>run_arrayAt (P:=Tryz.prog) w' 180 _ 4 Tryz.underlying180 ⟨N2,0,none⟩ 4 8 (by decide)
 have P2:=λw':World=>run_arrayAt (P:=Tryz.prog) w' 180 _ 4 Tryz.underlying180 ⟨N2,4,none⟩ 4 4 (by decide)
 go_cut [6,7] from 15 (λu v w'=>∃(M:List Nat) (g6 g7:Nat),u=.pointer (some ⟨g6,0,none⟩)/\v=.pointer (some ⟨g7,0,none⟩)/\HR w [] M [(g6,180,#[.int .u32 sa,.int .u32 sb,.int .u32 sc,.int .u32 sd]),(g7,180,#[.int .u32 se,.int .u32 sf,.int .u32 sg,.int .u32 sh]),(N5,178,(wv X).toArray),(N4,91,#[.int .u32 0,.int .u32 0,.int .u32 0,.int .u32 0,.int .u32 0,.int .u32 0,.int .u32 0,.int .u32 0]),(N2,91,#[.int .u32 sa,.int .u32 sb,.int .u32 sc,.int .u32 sd,.int .u32 se,.int .u32 sf,.int .u32 sg,.int .u32 sh])] [] [λM W=>SlAt M W A b] w')
 case first =>
  rename_i hK
  obtain ⟨y0,y1,y2,y3,y4,y5,y6,y7⟩:=E.out _ (below_drewS _)
  go_region_held3 (λw'=>w'.cell? ⟨N2,0,none⟩=some (.int .u32 sa)/\w'.cell? ⟨N2,1,none⟩=some (.int .u32 sb)/\w'.cell? ⟨N2,2,none⟩=some (.int .u32 sc)/\w'.cell? ⟨N2,3,none⟩=some (.int .u32 sd)/\w'.cell? ⟨N2,4,none⟩=some (.int .u32 se)/\w'.cell? ⟨N2,5,none⟩=some (.int .u32 sf)/\w'.cell? ⟨N2,6,none⟩=some (.int .u32 sg)/\w'.cell? ⟨N2,7,none⟩=some (.int .u32 sh)) (first | exact E.out _ (below_drewS _) | exact E.out _ ((below_drewS W5).alloc (ag _) _) | exact E.out _ (((below_drewS W5).alloc (ag _) _).alloc (ag _) _) | exact E.out _ (by go_grown)) (fail)
  all_goals
   go_wp2_with fail
   go_meet
   case rel=>first | exact ⟨_,_,_,rfl,rfl,two_a T5.out⟩ | exact ⟨_,_,_,rfl,rfl,two_b T5.out⟩
 case rest =>
  obtain ⟨M5,g6,g7,rfl,rfl,hT⟩:=hcut
  clear T5 E P1 P2
  have T:=aI hT
  clear hT
  rename_i hK
  apply hK
  clear hK
  have hke:KEnv wc:=hk.to T.out.h.bl
  have hkz:(Tryz.prog.info? 178).map (·.size)=some (wv Sha.KK).length:=by kernel_rfl
  go_upto_region 4 with (refine wpList_load_mid rfl 178 (.global 1) rfl 1 0 rfl (wv Sha.KK) _ hke Tryz.underlying178 rfl hkz ?_;(try simp only [zn]))
  clear hke hkz
  have hKl:Sha.KK.length=64:=rfl
  have CIX:=aI (λ(W:World) (t:Nat) (ht:t < 64)=>run_index_word (P:=Tryz.prog) W 178 90 64 Sha.KK Tryz.underlying178 Tryz.underlying90 (by kernel_rfl) hKl t ht)
  obtain ⟨KX,hKX⟩:=aX (wv Sha.KK)
  rw [hKX] at CIX ⊢
  clear hKX
  go_loopg [22] 64 (λr i wr=>∃(t:Nat) (V:Sha.St) (M:List Nat),t+r=64/\i=.int .i64 t/\V=Sha.rnds Sha.KK X ⟨sa,sb,sc,sd,se,sf,sg,sh⟩ t/\HR w [] M [(g6,180,#[.int .u32 V.a,.int .u32 V.b,.int .u32 V.c,.int .u32 V.d]),(g7,180,#[.int .u32 V.e,.int .u32 V.f,.int .u32 V.g,.int .u32 V.h]),(N5,178,(wv X).toArray),(N4,91,#[.int .u32 0,.int .u32 0,.int .u32 0,.int .u32 0,.int .u32 0,.int .u32 0,.int .u32 0,.int .u32 0]),(N2,91,#[.int .u32 sa,.int .u32 sb,.int .u32 sc,.int .u32 sd,.int .u32 se,.int .u32 sf,.int .u32 sg,.int .u32 sh])] [] [λM W=>SlAt M W A b] wr)
  case atStart=>exact ⟨0,_,_,by omega,rfl,rfl,T.out⟩
  case round =>
   clear T
   obtain ⟨t,V,M,ht,rfl,hV,hT⟩:=hrel
   obtain ⟨va,vb,vc,vd,ve,vf,vg,vh⟩:=V
   obtain ⟨wo,rfl⟩:=aY wr
   have T:=aI hT
   have HV:=aI hV
   clear hT hV
   have q:=T.out.box (.head _);obtain ⟨v0,v1,v2,v3⟩:=aN4 q.cell;simp at v0 v1 v2 v3;clear q
   have q:=T.out.box (.tail _ (.head _));obtain ⟨e0,e1,e2,e3⟩:=aN4 q.cell;simp at e0 e1 e2 e3;clear q
   by_cases hlt:t < 64
   .have t0:(0:Int)<=(t:Int):=aa _
    have t1:(t:Int) < 64:=by omega
    have x0:wo.cell? ⟨N5,t,none⟩=some (.int .u32 (Sha.g X t)):=((T.out.box (.tail _ (.tail _ (.head _)))).cell t).trans (by rw [aE];exact wv_get (by omega))
    have hix:=λW=>CIX.out W t hlt
    obtain ⟨kt,hkt⟩:=aX (Sha.g Sha.KK t)
    obtain ⟨xt,hxt⟩:=aX (Sha.g X t)
    rw [hkt] at hix
    rw [hxt] at x0
    have CM1:=aI (λ(W:World) n=>Calls.quiet_of_same (n:=n) (w:=W) ((mix_any ve 6 11 25 6 11 25 rfl rfl rfl (by omega) (by omega) (by omega) (W.drewN n)).mono λ_ _ h=>⟨h.1,h.2.symm⟩))
    have CM2:=aI (λ(W:World) n=>Calls.quiet_of_same (n:=n) (w:=W) ((mix_any va 2 13 22 2 13 22 rfl rfl rfl (by omega) (by omega) (by omega) (W.drewN n)).mono λ_ _ h=>⟨h.1,h.2.symm⟩))
    go_wp2_with fail
    go_quiet ((go_at_call 153;with_reducible exact CM1.out _ _))
    replace T:=aI (T.out.drewN nq)
    generalize wo.drewN nq=wp at T ⊢
    clear v0 v1 v2 v3 e0 e1 e2 e3 x0 hix CM1
    have hm:(if IntKind.u32.signed=true then (-1:Int) else IntKind.u32.max)=4294967295:=rfl
    rw [hm]
    have hch:bits .xor .u32 (bits .and .u32 ve vf) (bits .and .u32 (bits .xor .u32 4294967295 ve) vg)=Sha.ch ve vf vg:=Sha.ch_is ve vf vg
    rw [hch]
    rw [Sha.ad5]
    obtain ⟨x,hx⟩:=aX (Sha.ad (Sha.ad (Sha.ad (Sha.ad vh (Sha.mix ve 6 11 25)) (Sha.ch ve vf vg)) kt) xt)
    rw [hx]
    have HXX:=aI hx
    clear hx hm hch
    have q:=T.out.box (.head _);obtain ⟨v0,v1,v2,v3⟩:=aN4 q.cell;simp at v0 v1 v2 v3;clear q
    go_wp2_with fail
    go_quiet ((go_at_call 153;with_reducible exact CM2.out _ _))
    replace T:=aI (T.out.drewN nq)
    generalize wp.drewN nq=wq at T ⊢
    clear v0 v1 v2 v3 CM2
    have hmj:bits .xor .u32 (bits .xor .u32 (bits .and .u32 va vb) (bits .and .u32 va vc)) (bits .and .u32 vb vc)=Sha.mj va vb vc:=rfl
    rw [hmj]
    have hy0:=Sha.ad_is (Sha.mix va 2 13 22) (Sha.mj va vb vc)
    rw [<-hy0]
    obtain ⟨y,hy⟩:=aX (Sha.ad (Sha.mix va 2 13 22) (Sha.mj va vb vc))
    rw [hy]
    have HYY:=aI hy
    clear hy hy0 hmj
    have q:=T.out.box (.head _);obtain ⟨v0,v1,v2,v3⟩:=aN4 q.cell;simp at v0 v1 v2 v3;clear q
    have q:=T.out.box (.tail _ (.head _));obtain ⟨e0,e1,e2,e3⟩:=aN4 q.cell;obtain ⟨f0,f1,f2,f3⟩:=aN4 q.frozen;simp at e0 e1 e2 e3;clear q
    go_upto_region 9 with fail
    rw [<-Sha.ad_is vd x]
    have T2:=aI ((T.out.bswap.four (a0:=.int .u32 (Sha.ad vd x)) (a1:=.int .u32 ve) (a2:=.int .u32 vf) (a3:=.int .u32 vg)).bswap)
    clear T v0 v1 v2 v3 e0 e1 e2 e3 f0 f1 f2 f3
    generalize (((wq.setCell ⟨g7,0,none⟩ (.int .u32 (Sha.ad vd x))).setCell ⟨g7,1,none⟩ (.int .u32 ve)).setCell ⟨g7,2,none⟩ (.int .u32 vf)).setCell ⟨g7,3,none⟩ (.int .u32 vg)=wr9 at T2 ⊢
    have q:=T2.out.box (.head _);obtain ⟨v0,v1,v2,v3⟩:=aN4 q.cell;obtain ⟨f0,f1,f2,f3⟩:=aN4 q.frozen;simp at v0 v1 v2 v3;clear q
    go_wp2_with fail
    rw [<-Sha.ad_is x y]
    have T3:=T2.out.four (a0:=.int .u32 (Sha.ad x y)) (a1:=.int .u32 va) (a2:=.int .u32 vb) (a3:=.int .u32 vc)
    have HRN:=aI (show (⟨Sha.ad x y,va,vb,vc,Sha.ad vd x,ve,vf,vg⟩:Sha.St)=Sha.rnds Sha.KK X ⟨sa,sb,sc,sd,se,sf,sg,sh⟩ (t+1) by
     rw [Sha.rnds,<-HV.out]
     show _=Sha.rnd (Sha.g Sha.KK t) (Sha.g X t) ⟨va,vb,vc,vd,ve,vf,vg,vh⟩
     rw [hkt,hxt]
     show _=(⟨Sha.ad (Sha.ad (Sha.ad (Sha.ad (Sha.ad vh (Sha.mix ve 6 11 25)) (Sha.ch ve vf vg)) kt) xt) (Sha.ad (Sha.mix va 2 13 22) (Sha.mj va vb vc)),va,vb,vc,Sha.ad vd (Sha.ad (Sha.ad (Sha.ad (Sha.ad vh (Sha.mix ve 6 11 25)) (Sha.ch ve vf vg)) kt) xt),ve,vf,vg⟩:Sha.St)
     rw [HXX.out,HYY.out])
    go_roundg (gk - 1)
    case measure=>omega
    case rel=>exact ⟨t+1,_,_,by omega,by go_num,HRN.out,T3⟩
   .obtain rfl:t=64:=by omega
    have T2:=aI (show HR w [] M [(N2,91,Sha.pv ⟨sa,sb,sc,sd,se,sf,sg,sh⟩ ⟨va,vb,vc,vd,ve,vf,vg,vh⟩ 0),(g6,180,#[.int .u32 va,.int .u32 vb,.int .u32 vc,.int .u32 vd]),(g7,180,#[.int .u32 ve,.int .u32 vf,.int .u32 vg,.int .u32 vh]),(N4,91,#[.int .u32 0,.int .u32 0,.int .u32 0,.int .u32 0,.int .u32 0,.int .u32 0,.int .u32 0,.int .u32 0])] [] [λM W=>SlAt M W A b] wo from (T.out.boxes (.cons_cons _ (.cons_cons _ (.cons _ (List.Sublist.refl _))))).bperm (List.perm_append_comm (l₁:=[_,_,_]) (l₂:=[_])))
    clear T v0 v1 v2 v3 e0 e1 e2 e3
    have e64:((64:Nat):Int)=64:=rfl
    rw [e64]
    clear e64
    go_upto_region 12 with fail
    go_loopg [94] 4 (λr i wr=>∃j:Nat,j+r=4/\i=.int .i64 j/\HR w [] M [(N2,91,Sha.pv ⟨sa,sb,sc,sd,se,sf,sg,sh⟩ ⟨va,vb,vc,vd,ve,vf,vg,vh⟩ j),(g6,180,#[.int .u32 va,.int .u32 vb,.int .u32 vc,.int .u32 vd]),(g7,180,#[.int .u32 ve,.int .u32 vf,.int .u32 vg,.int .u32 vh]),(N4,91,#[.int .u32 0,.int .u32 0,.int .u32 0,.int .u32 0,.int .u32 0,.int .u32 0,.int .u32 0,.int .u32 0])] [] [λM W=>SlAt M W A b] wr)
    case atStart=>exact ⟨0,by omega,rfl,T2.out⟩
    case round =>
     clear T2
     obtain ⟨j,hj,rfl,hT⟩:=hrel
     obtain ⟨wi,rfl⟩:=aY wr
     have T:=aI hT
     clear hT
     by_cases hlj:j < 4
     .have j0:(0:Int)<=(j:Int):=aa _
      have j1:(j:Int) < 4:=by omega
      have j2:(j:Int) < 8:=by omega
      have j3:(j:Int)+4 < 8:=by omega
      obtain ⟨p,q,r,u,hp,hq,hr,hu,hst⟩:=Sha.pv_step ⟨sa,sb,sc,sd,se,sf,sg,sh⟩ ⟨va,vb,vc,vd,ve,vf,vg,vh⟩ j hlj
      have HST:=aI hst
      have HP:=aI hp;have HQ:=aI hq;have HR_:=aI hr;have HU:=aI hu
      clear hp hq hr hu hst
      go_wp2_with fail
      apply zy (C:=λw'=>HR w [] M [(N2,91,Sha.pv ⟨sa,sb,sc,sd,se,sf,sg,sh⟩ ⟨va,vb,vc,vd,ve,vf,vg,vh⟩ j),(g6,180,#[.int .u32 va,.int .u32 vb,.int .u32 vc,.int .u32 vd]),(g7,180,#[.int .u32 ve,.int .u32 vf,.int .u32 vg,.int .u32 vh]),(N4,91,#[.int .u32 0,.int .u32 0,.int .u32 0,.int .u32 0,.int .u32 0,.int .u32 0,.int .u32 0,.int .u32 0])] [] [λM W=>SlAt M W A b] w') (n:=116) (m:=8) (l1:=[_,_,_,_,_,_,_,_]) (l2:=[_]);rfl;rfl;kernel_rfl;rfl;kernel_rfl;exact T.out.drew;exact λu u' h hb=>(by first | exact h.below hb | exact h.trans (hb.mono h.size))
      iterate 8 ((apply aJ;·(intro w' hC hf;have dr:=((hC.box (.head _)).cell j).trans HP.out;have ds:=((hC.box (.tail _ (.head _))).cell j).trans HR_.out;clear hf hC;go_wp2_with (fail);apply aO;simp only [zC];exact rfl));(try simp only [zn]))
      apply wpT_done
      intro w4 hC hall
      clear hall
      rw [<-Sha.ad_is p r]
      have z:=((hC.box (.head _)).cell j).trans HP.out
      have f:=(hC.box (.head _)).frozen j
      have T3:=aI (hC.set0 j (.int .u32 (Sha.ad p r)))
      clear hC T
      go_upto_region 15 with fail
      clear z f
      generalize w4.setCell ⟨N2,j,none⟩ (.int .u32 (Sha.ad p r))=w5 at T3 ⊢
      have HQ1:=aI (show ((Sha.pv ⟨sa,sb,sc,sd,se,sf,sg,sh⟩ ⟨va,vb,vc,vd,ve,vf,vg,vh⟩ j).setIfInBounds j (.int .u32 (Sha.ad p r)))[j+4]?=some (.int .u32 q) by rw [Array.getElem?_setIfInBounds_ne (by omega)];exact HQ.out)
      apply zy (C:=λw'=>HR w [] M [(N2,91,(Sha.pv ⟨sa,sb,sc,sd,se,sf,sg,sh⟩ ⟨va,vb,vc,vd,ve,vf,vg,vh⟩ j).setIfInBounds j (.int .u32 (Sha.ad p r))),(g6,180,#[.int .u32 va,.int .u32 vb,.int .u32 vc,.int .u32 vd]),(g7,180,#[.int .u32 ve,.int .u32 vf,.int .u32 vg,.int .u32 vh]),(N4,91,#[.int .u32 0,.int .u32 0,.int .u32 0,.int .u32 0,.int .u32 0,.int .u32 0,.int .u32 0,.int .u32 0])] [] [λM W=>SlAt M W A b] w') (n:=116) (m:=9) (l1:=[_,_,_,_,_,_,_,_,_]) (l2:=[_]);rfl;rfl;kernel_rfl;rfl;kernel_rfl;exact T3.out.drew;exact λu u' h hb=>(by first | exact h.below hb | exact h.trans (hb.mono h.size))
      iterate 9 ((apply aJ;·(intro w' hC hf;have dr:=((hC.box (.head _)).cell (j+4)).trans HQ1.out;have ds:=((hC.box (.tail _ (.tail _ (.head _)))).cell j).trans HU.out;clear hf hC;go_wp2_with (fail);apply aO;simp only [zC];exact rfl));(try simp only [zn]))
      apply wpT_done
      intro w6 hC hall
      clear hall
      rw [<-Sha.ad_is q u]
      have z:=((hC.box (.head _)).cell (j+4)).trans HQ1.out
      have f:=(hC.box (.head _)).frozen (j+4)
      have T4:=hC.set0 (j+4) (.int .u32 (Sha.ad q u))
      rw [HST.out] at T4
      clear hC T3
      go_wp2_with fail
      go_roundg (gk - 1)
      case measure=>omega
      case rel=>exact ⟨j+1,by omega,by go_num,T4⟩
     .obtain rfl:j=4:=by omega
      have hv:Sha.pv ⟨sa,sb,sc,sd,se,sf,sg,sh⟩ ⟨va,vb,vc,vd,ve,vf,vg,vh⟩ 4=(Sha.comp ⟨sa,sb,sc,sd,se,sf,sg,sh⟩ b).v:=by
       unfold Sha.comp
       rw [HX.out,<-HV.out];rfl
      have HVV:=aI hv
      clear hv
      have h8:(Tryz.prog.info? 91).map (·.size)=some (Sha.pv ⟨sa,sb,sc,sd,se,sf,sg,sh⟩ ⟨va,vb,vc,vd,ve,vf,vg,vh⟩ 4).size:=by kernel_rfl
      obtain ⟨PV,hPV⟩:=aX (Sha.pv ⟨sa,sb,sc,sd,se,sf,sg,sh⟩ ⟨va,vb,vc,vd,ve,vf,vg,vh⟩ 4)
      have h1:PV.all (·.oneCell')=true:=by rw [<-hPV];exact Sha.pv_one _ _ _
      have h9:PV.size=8:=by rw [<-hPV];rfl
      rw [hPV] at T h8 HVV
      clear hPV
      go_upto_region 17 with fail
      refine wp_region_lit ?_
      refine wpList_load_row rfl 91 (.tmp 2) rfl N2 rfl 91 PV (0,0) _ (T.out.box (.head _)) Tryz.underlying91 rfl h8 ?_;(try simp only [zn])
      refine wpList_store_row rfl 91 (.tmp 4) (.tmp 115) rfl N4 PV rfl rfl 91 #[.int .u32 0,.int .u32 0,.int .u32 0,.int .u32 0,.int .u32 0,.int .u32 0,.int .u32 0,.int .u32 0] (T.out.box (.tail _ (.tail _ (.tail _ (.head _))))) h8 h9.symm h1 ?_
      have T5:=aI ((T.out.bperm (List.perm_append_comm (l₁:=[_,_,_]) (l₂:=[_]))).setAll PV)
      generalize wi.setRow N4 PV=W9 at T5 ⊢
      go_wp2_with fail
      exact zi (v:=.agg PV) (results_cell_row Tryz.results110 _ _ _ _ _ _ _ rfl (T5.out.box (.head _)) Tryz.underlying91 rfl h8) rfl ⟨by rw [HVV.out],T5.out.h.bl⟩
def sv (s:Sha.St) (blk:List UInt8) (n:Nat):Array Value:=(.int .u32 s.a::.int .u32 s.b::.int .u32 s.c::.int .u32 s.d::.int .u32 s.e::.int .u32 s.f::.int .u32 s.g::.int .u32 s.h::(byteVals blk++[.int .u64 n])).toArray
theorem sv_size {s:Sha.St} {blk:List UInt8} {n:Nat} (h:blk.length=64):(sv s blk n).size=73:=by simp [sv,byteVals_length,h]
theorem sv_one (s:Sha.St) (blk:List UInt8) (n:Nat):(sv s blk n).all (·.oneCell')=true:=all_oneCell_toArray λv hv=>by
 simp only [zB,zE,zr,zQ] at hv
 rcases hv with rfl | rfl | rfl | rfl | rfl | rfl | rfl | rfl | hv | rfl
 all_goals first | rfl | exact byteVals_one _ _ hv
theorem sv_n {s:Sha.St} {blk:List UInt8} {n:Nat} (h:blk.length=64):(sv s blk n)[72]?=some (.int .u64 n):=by
 unfold sv
 rw [aE]
 simp only [aC]
 rw [zL (by rw [byteVals_length];omega),byteVals_length,h];rfl
theorem sv_b {s:Sha.St} {blk:List UInt8} {n:Nat} {i:Nat} (h:i < blk.length):(sv s blk n)[8+i]?=some (.int .u8 (blk[i]).toNat):=by
 unfold sv
 rw [aE,show 8+i=i+8 by omega]
 simp only [aC]
 rw [zX (by rw [byteVals_length];exact h)]
 unfold byteVals
 rw [List.getElem?_map,zp h];rfl
theorem sv_setn {s:Sha.St} {blk:List UInt8} {n m:Nat} (h:blk.length=64):(sv s blk n).setIfInBounds 72 (.int .u64 m)=sv s blk m:=by
 unfold sv
 simp only [aB,aG]
 rw [List.set_append_right _ _ (by rw [byteVals_length];omega),byteVals_length,h];rfl
theorem sv_copy {s:Sha.St} {blk t:List UInt8} {n a k:Nat} (h:a<=blk.length):((sv s blk n).toList.take (8+a)++byteVals t++(sv s blk n).toList.drop (8+a+k)).toArray=sv s (blk.take a++t++blk.drop (a+k)) n∨blk.length < a+k:=by
 by_cases hl:blk.length < a+k
 .exact .inr hl
 .left
  unfold sv
  rw [List.toList_toArray,show 8+a=a+8 by omega,show a+8+k=(a+k)+8 by omega]
  simp only [List.take_succ_cons,List.drop_succ_cons,zM]
  rw [List.take_append_of_le_length (by rw [byteVals_length];exact h),List.drop_append_of_le_length (by rw [byteVals_length];omega),byteVals_append,byteVals_append]
  unfold byteVals
  rw [<-List.map_take,<-List.map_drop]
  simp only [zo]
theorem sv_slat {W:World} {N:Nat} {t:TypeId} {s:Sha.St} {blk:List UInt8} {n:Nat} (h:Blk W N t (sv s blk n)):SlAt [] W (some ⟨N,8,none⟩) blk:=by
 refine .inr ⟨N,8,rfl,h.lt,by simp,λi hi=>⟨[.int .u8 (blk[i]).toNat],rfl,λj u hu=>?_⟩⟩
 match j,hu with
 | 0,hu =>
  rw [show (Mem.sz UInt8)=1 from rfl,zO,zW]
  exact (h.cell (8+i)).trans ((sv_b hi).trans hu)
def StV (m:List UInt8) (v:Value):Prop:=∃blk:List UInt8,blk.length=64/\blk.take (m.length % 64)=Sha.rest m/\v=.agg (sv (Sha.blocks Sha.H0 m) blk m.length)
theorem wpList_copy_str {P:Program} {ops:Array Oper} {rest:List Oper} {o:Oper} {a:Act} {w:World} {Q:Exit->Act->World->Prop} (hgd:o.guard=none) (d x:Operand) (dT sT elem:TypeId)
  (ho:o.op=.call { callee:=.builtin .copy,args:=#[d,x],argTypes:=#[dT,sT] }) (hu:P.underlying dT=some (.slice elem)) (hs:(P.info? elem).map (·.size)=some 1)
  (g off dLen dCap:Nat) (s:ByteArray) (cur:Array Value) (t:TypeId) (k:Nat) (hd:a.eval d=.slice (some ⟨g,off,none⟩) dLen dCap) (hx:a.eval x=.string s) (hg:Blk w g t cur) (hk:k=Nat.min s.size dLen) (hfit:off+k<=cur.size)
  (h:wpList P ops Q rest (a.put o.dst (goInt k)) (w.setRow g (cur.toList.take off++byteVals (s.data.toList.take k)++cur.toList.drop (off+k)).toArray)):wpList P ops Q (o::rest) a w :=
 wpList_plain hgd λ_ hK=>by
  have hrun:=run_copy_str (P:=P) w dT sT o.type elem g off dLen dCap s cur t k hu hs hg hk hfit
  unfold Oper.wp execOp
  simp only [ho,resolve,invoke,builtin,Sem.run_bind,Sem.run_pure,Result.andThen_ok,List.map_toArray,List.map_cons,List.map_nil,hd,hx,hrun]
  exact hK _ _ h
theorem ne_spell {t:ByteArray} (h:¬t.size=0):t.toList.isEmpty=false:=by
 rw [ByteArray.toList_eq]
 cases hq:t.data.toList with
 | nil=>exact zU (by rw [show t.size=t.data.toList.length by simp,hq];rfl) h
 | cons a l=>rfl
theorem eq_spell {t:ByteArray} (h:t.size=0):t.toList.isEmpty=true:=by
 rw [ByteArray.toList_eq]
 have:t.data.toList=[]:=zT (by simpa using h)
 rw [this];rfl
theorem sv_set8 (s:Sha.St) (blk:List UInt8) (n:Nat) (a b c d e f g h:Int):((((((((sv s blk n).setIfInBounds 0 (.int .u32 a)).setIfInBounds 1 (.int .u32 b)).setIfInBounds 2 (.int .u32 c)).setIfInBounds 3 (.int .u32 d)).setIfInBounds 4 (.int .u32 e)).setIfInBounds 5 (.int .u32 f)).setIfInBounds 6 (.int .u32 g)).setIfInBounds 7 (.int .u32 h)=sv ⟨a,b,c,d,e,f,g,h⟩ blk n:=by
 simp only [sv,aB,aF,aG]
theorem HR.state {w W:World} {G M:List Nat} {N:Nat} {t:TypeId} {bx:List Box} {rs:List Rw} {L:List (List Nat->World->Prop)} {s:Sha.St} {blk:List UInt8} {n:Nat} (T:HR w G M ((N,t,sv s blk n)::bx) rs L W) (v:Sha.St):HR w G M ((N,t,sv v blk n)::bx) rs L
  ((((((((W.setCell ⟨N,0,none⟩ (.int .u32 v.a)).setCell ⟨N,1,none⟩ (.int .u32 v.b)).setCell ⟨N,2,none⟩ (.int .u32 v.c)).setCell ⟨N,3,none⟩ (.int .u32 v.d)).setCell ⟨N,4,none⟩ (.int .u32 v.e)).setCell ⟨N,5,none⟩ (.int .u32 v.f)).setCell ⟨N,6,none⟩ (.int .u32 v.g)).setCell ⟨N,7,none⟩ (.int .u32 v.h)):=by
 have h:=(((((((T.set0 0 (.int .u32 v.a)).set0 1 (.int .u32 v.b)).set0 2 (.int .u32 v.c)).set0 3 (.int .u32 v.d)).set0 4 (.int .u32 v.e)).set0 5 (.int .u32 v.f)).set0 6 (.int .u32 v.g)).set0 7 (.int .u32 v.h)
 rw [sv_set8] at h
 exact h
theorem sv_cells {W:World} {N:Nat} {t:TypeId} {s:Sha.St} {blk:List UInt8} {n:Nat} (h:Blk W N t (sv s blk n)):W.cell? ⟨N,0,none⟩=some (.int .u32 s.a)/\W.cell? ⟨N,1,none⟩=some (.int .u32 s.b)/\W.cell? ⟨N,2,none⟩=some (.int .u32 s.c)/\W.cell? ⟨N,3,none⟩=some (.int .u32 s.d)/\W.cell? ⟨N,4,none⟩=some (.int .u32 s.e)/\W.cell? ⟨N,5,none⟩=some (.int .u32 s.f)/\W.cell? ⟨N,6,none⟩=some (.int .u32 s.g)/\W.cell? ⟨N,7,none⟩=some (.int .u32 s.h) :=
 ⟨h.cell 0,h.cell 1,h.cell 2,h.cell 3,h.cell 4,h.cell 5,h.cell 6,h.cell 7⟩
theorem cut_text (t:ByteArray) (k:Nat) (h:k<=t.size):(t.extract k t.size).data.toList=t.data.toList.drop k/\(t.extract k t.size).size=t.size - k:=by
 refine ⟨?_,by rw [ByteArray.size_extract];omega⟩
 rw [ByteArray.data_extract,Array.toList_extract]
 unfold List.extract
 rw [List.take_of_length_le]
 rw [List.length_drop,show t.data.toList.length=t.size by simp]
 omega
theorem add_any (m:List UInt8) (v:Value) (s:ByteArray) (w:World) (hv:StV m v) (hl:m.length+s.size<=1000000000) (hk:KEnv w):Calls Tryz.prog 57 #[v,.string s] w λe w'=>∃v',e=.returned v'/\StV (m++s.data.toList) v'/\Below w.heap.size w w':=by
 obtain ⟨blk,hb,hr,rfl⟩:=hv
 obtain ⟨all,hall⟩:=aX (m++s.data.toList)
 rw [hall]
 have HALL:=aI hall
 have hS:(Tryz.prog.info? 94).map (·.size)=some (sv (Sha.blocks Sha.H0 m) blk m.length).size:=by rw [sv_size hb];kernel_rfl
 go_enter Tryz.func57,Tryz.ntmps57
 go_upto_region 1 with fail
 have T:=aI (((HR.start (held0 w [] (λ_ h=>by cases h))).new (sv (Sha.blocks Sha.H0 m) blk m.length) 94 rfl).new Tryz.zeroCells94 94 rfl)
 have hN1:(w.alloc (.cells (sv (Sha.blocks Sha.H0 m) blk m.length) 94)).heap.size=w.heap.size+1:=by simp
 rw [hN1] at T
 clear hN1
 generalize (w.alloc (.cells (sv (Sha.blocks Sha.H0 m) blk m.length) 94)).alloc (.cells Tryz.zeroCells94 94)=W1 at T ⊢
 generalize w.heap.size+1=N4 at T ⊢
 generalize w.heap.size=N2 at T ⊢
 have HK:=aI (λ(W:World) (h:Below w.heap.size w W)=>hk.to h)
 go_loopg [1] s.size (λr u wr=>∃(m:List UInt8) (t:ByteArray) (blk:List UInt8),t.size=r/\u=.string t/\m++t.data.toList=all/\blk.length=64/\blk.take (m.length % 64)=Sha.rest m/\m.length+t.size<=1000000000/\HR w [] [N4,N2] [(N2,94,sv (Sha.blocks Sha.H0 m) blk m.length),(N4,94,Tryz.zeroCells94)] [] [] wr)
 case atStart=>exact ⟨m,s,blk,rfl,rfl,HALL.out,hb,hr,hl,T.out.bswap⟩
 case round =>
  clear T hb hr hl hall hS HALL
  obtain ⟨m,t,blk,ht,rfl,hall,hb,hr,hl,hT⟩:=hrel
  obtain ⟨wo,rfl⟩:=aY wr
  have T:=aI hT
  have HALL:=aI hall
  clear hT hall
  by_cases hz:t.size=0
  .have heq:=eq_spell hz
   have hall:m=all:=by
    rw [<-HALL.out,zT (l:=t.data.toList) (by simpa using hz),zK]
   have HST:=aI (show StV all (.agg (sv (Sha.blocks Sha.H0 m) blk m.length)) from by rw [<-hall];exact ⟨blk,hb,hr,rfl⟩)
   have hsz:(Tryz.prog.info? 94).map (·.size)=some (sv (Sha.blocks Sha.H0 m) blk m.length).size:=by rw [sv_size hb];kernel_rfl
   have h73:(Tryz.zeroCells94).size=(sv (Sha.blocks Sha.H0 m) blk m.length).size:=by rw [sv_size hb];kernel_rfl
   have h1:=sv_one (Sha.blocks Sha.H0 m) blk m.length
   obtain ⟨C,hC⟩:=aX (sv (Sha.blocks Sha.H0 m) blk m.length)
   rw [hC] at T HST hsz h73 h1
   clear hC hall hb hr
   go_upto_region 8 with fail
   refine wp_region_lit ?_
   refine wpList_load_row rfl 94 (.tmp 2) rfl N2 rfl 94 C (0,0) _ (T.out.box (.head _)) Tryz.underlying94 rfl hsz ?_;(try simp only [zn])
   refine wpList_store_row rfl 94 (.tmp 4) (.tmp 37) rfl N4 C rfl rfl 94 _ (T.out.box (.tail _ (.head _))) hsz h73 h1 ?_
   have T5:=aI (T.out.bswap.setAll C)
   generalize wo.setRow N4 C=W9 at T5 ⊢
   go_wp2_with fail
   exact zi (v:=.agg C) (results_cell_row Tryz.results57 _ _ _ _ _ _ _ rfl (T5.out.box (.head _)) Tryz.underlying94 rfl hsz) rfl ⟨_,rfl,HST.out,T5.out.h.bl⟩
  .have hne:=ne_spell hz
   obtain ⟨n,hn⟩:=aX m.length
   obtain ⟨a,ha⟩:=aX (n % 64)
   have ha64:a < 64:=by omega
   have c72:=((T.out.box (.head _)).cell 72).trans (sv_n hb)
   rw [hn] at c72
   have ea:((n:Nat):Int) % 64=(a:Int):=by omega
   have wa:IntKind.i64.wrap (a:Int)=(a:Int):=wrapI (by unfold inI;omega)
   have a0:(0:Int)<=(a:Int):=by omega
   have a1:(a:Int)<=64:=by omega
   obtain ⟨k,hkk⟩:=aX (Nat.min t.size (64 - a))
   have hk1:k<=t.size:=by rw [<-hkk];exact Nat.min_le_left _ _
   have hk2:k<=64 - a:=by rw [<-hkk];exact Nat.min_le_right _ _
   have hk3:k=t.size∨k=64 - a:=by rw [<-hkk];rcases Nat.le_total t.size (64 - a) with h | h <;> simp only [Nat.min_def] <;> split <;> omega
   have hk0:0 < k:=by omega
   have HKK:=aI hkk
   have k0:(0:Int)<=(k:Int):=by omega
   have k1:(k:Int)<=(t.size:Int):=by omega
   have hu8:(Tryz.prog.info? 5).map (·.size)=some 1:=by kernel_rfl
   have HU8:=aI hu8
   have HFT:=aI (show 8+a+k<=(sv (Sha.blocks Sha.H0 m) blk n).size by rw [sv_size hb];omega)
   rw [hn] at T
   clear hu8 hkk
   go_upto_region 4 with (refine wpList_copy_str rfl (.tmp 15) (.tmp 16) 35 9 5 rfl Tryz.underlying35 HU8.out N2 (8+a) (64 - a) (64 - a) t (sv (Sha.blocks Sha.H0 m) blk n) 94 k rfl rfl (T.out.box (.head _)) HKK.out.symm HFT.out ?_;(try simp only [zn]))
   rw [show goInt ((k:Nat):Int)=Value.int .i64 (k:Int) from rfl]
   obtain ⟨tk,htk⟩:=aX (t.data.toList.take k)
   have htl:tk.length=k:=by rw [<-htk,zI,show t.data.toList.length=t.size by simp];omega
   have T2:=T.out.setAll ((sv (Sha.blocks Sha.H0 m) blk n).toList.take (8+a)++byteVals (t.data.toList.take k)++(sv (Sha.blocks Sha.H0 m) blk n).toList.drop (8+a+k)).toArray
   generalize wo.setRow N2 ((sv (Sha.blocks Sha.H0 m) blk n).toList.take (8+a)++byteVals (t.data.toList.take k)++(sv (Sha.blocks Sha.H0 m) blk n).toList.drop (8+a+k)).toArray=W6 at T2 ⊢
   rw [htk,(sv_copy (s:=Sha.blocks Sha.H0 m) (t:=tk) (n:=n) (show a<=blk.length by omega)).resolve_right (by omega)] at T2
   obtain ⟨bl2,hbl⟩:=aX (blk.take a++tk++blk.drop (a+k))
   rw [hbl] at T2
   have hb2:bl2.length=64:=by rw [<-hbl,aK,aK,zI,List.length_drop];omega
   have hbt:bl2.take (a+k)=Sha.rest m++tk:=by
    rw [<-hbl,List.take_append_of_le_length (by rw [aK,zI];omega),List.take_of_length_le (by rw [aK,zI];omega),<-hr,hn,ha]
   replace T:=aI T2
   clear T2 c72 HFT HU8 HKK hbl
   have HBT:=aI hbt
   have c72:=((T.out.box (.head _)).cell 72).trans (sv_n hb2)
   have f72:=(T.out.box (.head _)).frozen 72
   obtain ⟨n2,hn2⟩:=aX (n+k)
   have e2:(n:Int)+(k:Int)=(n2:Int):=by omega
   have w1:IntKind.u64.wrap (k:Int)=(k:Int):=by simp only [IntKind.wrap,IntKind.signed,IntKind.bits];simp;omega
   have w2:IntKind.u64.wrap (n2:Int)=(n2:Int):=by simp only [IntKind.wrap,IntKind.signed,IntKind.bits];simp;omega
   clear hbt
   by_cases hfull:a+k=64
   .have hq:((a:Int)+(k:Int) == 64)=true:=by rw [beq_iff_eq];omega
    go_upto_region 7 with fail
    have T2:=T.out.set0 72 (.int .u64 n2)
    rw [sv_setn hb2] at T2
    generalize W6.setCell ⟨N2,72,none⟩ (.int .u64 (n2:Int))=W7 at T2 ⊢
    replace T:=aI T2
    clear T2 c72 f72
    obtain ⟨S,hS⟩:=aX (Sha.blocks Sha.H0 m)
    rw [hS] at T
    have HS:=aI hS
    obtain ⟨V,hV⟩:=aX (Sha.comp S bl2)
    have HV:=aI hV
    have CC:=aI (λ(W:World) (hs:SlAt [] W (some ⟨N2,8,none⟩) bl2) (hk:KEnv W)=>compress_any S bl2 (some ⟨N2,8,none⟩) 64 W hs hb2 (by omega) (by omega) hk)
    rw [hV] at CC
    clear hS hV
    apply zy (C:=λw'=>HR w [] [N4,N2] [(N2,94,sv S bl2 n2),(N4,94,Tryz.zeroCells94)] [] [] w') (n:=38) (m:=6) (l1:=[_,_,_,_,_,_]) (l2:=[_]);rfl;rfl;kernel_rfl;rfl;kernel_rfl;exact T.out.drew;exact λu u' h hb=>(by first | exact h.below hb | exact h.trans (hb.mono h.size))
    (apply aJ;·(intro w' hC hf;clear hf hC;go_wp2_with (fail);apply aO;simp only [zC];exact rfl));(try simp only [zn])
    (apply aJ;·(intro w' hC hf;obtain ⟨z0,z1,z2,z3,z4,z5,z6,z7⟩:=sv_cells (hC.box (.head _));clear hf hC;go_wp2_with (fail);apply aO;simp only [zC];exact rfl));(try simp only [zn])
    iterate 2 ((apply aJ;·(intro w' hC hf;clear hf hC;go_wp2_with (fail);apply aO;simp only [zC];exact rfl));(try simp only [zn]))
    apply wpT_exact (c:=.agg V.v)
    .intro w' hC hf;unfold Gives;have hsl:=aI (sv_slat (hC.box (.head _)));have hke:=aI (HK.out w' hC.h.bl);clear hf hC
     go_wp2_with (go_at_call 110;refine (CC.out _ hsl.out hke.out).mono ?_;rintro e w9 ⟨rfl,hb9⟩;have HB:=aI hb9;clear hb9)
     refine postT_val rfl HB.out ?_;simp only [zC]
    (try simp only [zn])
    (apply aJ;·(intro w' hC hf;clear hf hC;go_wp2_with (fail);apply aO;simp only [zC];exact rfl));(try simp only [zn])
    apply wpT_done
    intro w4 hC hall
    obtain ⟨z0,z1,z2,z3,z4,z5,z6,z7⟩:=sv_cells (hC.box (.head _))
    have q:=hC.box (.head _);obtain ⟨f0,f1,f2,f3,f4,f5,f6,f7⟩:=aN8 q.frozen
    have T4:=aI (hC.state V)
    clear hC hall T q
    go_wp2_with fail
    generalize (((((((w4.setCell ⟨N2,0,none⟩ (.int .u32 V.a)).setCell ⟨N2,1,none⟩ (.int .u32 V.b)).setCell ⟨N2,2,none⟩ (.int .u32 V.c)).setCell ⟨N2,3,none⟩ (.int .u32 V.d)).setCell ⟨N2,4,none⟩ (.int .u32 V.e)).setCell ⟨N2,5,none⟩ (.int .u32 V.f)).setCell ⟨N2,6,none⟩ (.int .u32 V.g)).setCell ⟨N2,7,none⟩ (.int .u32 V.h)=w5 at T4 ⊢
    obtain ⟨x1,x2⟩:=cut_text t k hk1
    have hmod:m.length % 64+tk.length=64:=by omega
    obtain ⟨y1,y2⟩:=Sha.blocks_full Sha.H0 m tk hmod
    have hbl2:bl2=Sha.rest m++tk:=by rw [<-HBT.out,List.take_of_length_le (by omega)]
    rw [HS.out,<-hbl2,HV.out] at y1
    have hlen:(m++tk).length=n2:=by rw [aK];omega
    rw [ht] at x1 x2
    go_roundg (gk - k)
    case measure=>omega
    case rel=>exact ⟨m++tk,_,bl2,x2,rfl,by rw [x1,zo,<-htk,List.take_append_drop];exact HALL.out,hb2,by rw [hlen,show n2 % 64=0 by omega,y2];rfl,by rw [hlen,x2];omega,by rw [y1,hlen];exact T4.out⟩
   .have hq:((a:Int)+(k:Int) == 64)=false:=by
     cases h:((a:Int)+(k:Int) == 64)
     .rfl
     .rw [beq_iff_eq] at h;omega
    go_wp2_with fail
    have T2:=T.out.set0 72 (.int .u64 n2)
    rw [sv_setn hb2] at T2
    obtain ⟨x1,x2⟩:=cut_text t k hk1
    obtain ⟨y1,y2⟩:=Sha.blocks_in Sha.H0 m tk (by omega)
    have hlen:(m++tk).length=n2:=by rw [aK];omega
    rw [ht] at x1 x2
    go_roundg (gk - k)
    case measure=>omega
    case rel=>exact ⟨m++tk,_,bl2,x2,rfl,by rw [x1,zo,<-htk,List.take_append_drop];exact HALL.out,hb2,by rw [hlen,show n2 % 64=a+k by omega,y2];exact HBT.out,by rw [hlen,x2];omega,by rw [y1,hlen];exact T2⟩
theorem begin_any (w:World):Calls Tryz.prog 56 #[] w λe w'=>∃v,e=.returned v/\StV [] v/\Below w.heap.size w w':=by
 obtain ⟨C,hC⟩:=aX (sv Sha.H0 (List.replicate 64 0) 0)
 have hsz:(Tryz.prog.info? 94).map (·.size)=some C.size:=by rw [<-hC,sv_size (by simp)];kernel_rfl
 have h73:(Tryz.zeroCells94).size=C.size:=by rw [<-hC,sv_size (by simp)];kernel_rfl
 have h1:C.all (·.oneCell')=true:=by rw [<-hC];exact sv_one _ _ _
 have HST:=aI (show StV [] (.agg C) from ⟨List.replicate 64 0,by simp,rfl,by rw [<-hC,Sha.blocks_lt _ (by simp)];rfl⟩)
 go_enter Tryz.func56,Tryz.ntmps56
 go_upto_region 1 with fail
 refine wp_region_lit ?_
 refine wpList_val (v:=.agg #[.int .u32 1779033703,.int .u32 3144134277,.int .u32 1013904242,.int .u32 2773480762,.int .u32 1359893119,.int .u32 2600822924,.int .u32 528734635,.int .u32 1541459225]) rfl (by kernel_rfl) ?_;(try simp only [zn])
 refine wpList_val (v:=.agg (sv Sha.H0 (List.replicate 64 0) 0)) rfl (by kernel_rfl) ?_;(try simp only [zn])
 rw [hC]
 refine wpList_store_last rfl 94 (.tmp 0) (.tmp 2) rfl C rfl rfl h73 hsz h1 ?_
 have hB:Blk (w.alloc (.cells C 94)) w.heap.size 94 C:=zj w _ _
 have hb:=(zf w.heap.size w).alloc (ag _) (.cells C 94)
 generalize w.alloc (.cells C 94)=W9 at hB hb ⊢
 have HB:=aI hb
 clear hb
 go_wp2_with fail
 exact zi (v:=.agg C) (results_cell_row Tryz.results56 _ _ _ _ _ _ _ rfl hB Tryz.underlying94 rfl hsz) rfl ⟨_,rfl,HST.out,HB.out⟩
def padZ (L:Nat):List UInt8:=128::List.replicate (L - 1) 0
theorem padZ_len {L:Nat} (h:1<=L):(padZ L).length=L:=by simp [padZ];omega
theorem padZ_snoc {L:Nat} (h:1<=L):padZ L++[0]=padZ (L+1):=by
 unfold padZ
 rw [zM,show L+1 - 1=(L - 1)+1 by omega,List.replicate_succ']
def outZ (S:Sha.St) (i:Nat):List UInt8:=Sha.out S i++List.replicate (32 - i) 0
theorem outZ_set (S:Sha.St) (i:Nat) (h:i < 32):(byteVals (outZ S i)).toArray.setIfInBounds i (.int .u8 (Sha.outB S i).toNat)=(byteVals (outZ S (i+1))).toArray:=by
 unfold outZ
 rw [show 32 - i=(32 - (i+1))+1 by omega,List.replicate_succ,<-Sha.out_snoc,byteVals_append,byteVals_append,byteVals_cons,byteVals_append,zo,aB,List.set_append_right _ _ (by rw [byteVals_length,Sha.out_length];exact ag _),byteVals_length,Sha.out_length,Nat.sub_self]
 rfl
theorem outZ_get (S:Sha.St) (i:Nat) (h:i < 32):(byteVals (outZ S i)).toArray[i]?=some (.int .u8 0):=by
 unfold outZ
 rw [show 32 - i=(32 - (i+1))+1 by omega,List.replicate_succ,byteVals_append,byteVals_cons,aE,zL (by rw [byteVals_length,Sha.out_length];exact ag _),byteVals_length,Sha.out_length,Nat.sub_self]
 rfl
theorem out32_size (S:Sha.St):(byteVals (Sha.out S 32)).toArray.size=32:=by simp [byteVals_length,Sha.out_length]
theorem out32_one (S:Sha.St):(byteVals (Sha.out S 32)).toArray.all (·.oneCell')=true:=by
 rw [Array.all_eq_true_iff_forall_mem]
 intro u hu
 exact byteVals_one _ u (List.mem_toArray.1 hu)
theorem sv_g {s:Sha.St} {blk:List UInt8} {n d:Nat} (h:d < 8):(sv s blk n)[d]?=some (.int .u32 (Sha.g s.l d)):=by
 match d,h with
 | 0,_ | 1,_ | 2,_ | 3,_ | 4,_ | 5,_ | 6,_ | 7,_=>rfl
theorem ssum_any (m:List UInt8) (v:Value) (w:World) (hv:StV m v) (hl:m.length<=100000000) (hk:KEnv w):Calls Tryz.prog 58 #[v] w λe w'=>e=.returned (.agg (byteVals (Sha.out (Sha.sum m) 32)).toArray)/\Below w.heap.size w w':=by
 obtain ⟨blk,hb,hr,rfl⟩:=hv
 obtain ⟨i0,hi,hz0,hz1,hz2⟩:=zq infoU8
 have HS0:=aI (show StV m (.agg (sv (Sha.blocks Sha.H0 m) blk m.length)) from ⟨blk,hb,hr,rfl⟩)
 have hfz:=Sha.fill_is m.length
 have HNO:=aI (Sha.fill_no m.length)
 obtain ⟨n,hn⟩:=aX m.length
 obtain ⟨C,hC⟩:=aX (sv (Sha.blocks Sha.H0 m) blk m.length)
 have hc72:C[72]?=some (.int .u64 n):=by rw [<-hC,<-hn];exact sv_n hb
 rw [hC] at HS0 ⊢
 rw [hn] at hl hfz HNO
 have HN:=aI hn
 have HC:=aI hc72
 have HK:=aI (λ(W:World) (h:Below w.heap.size w W)=>hk.to h)
 have hC73:C.size=73:=by rw [<-hC];exact sv_size hb
 have hC1:C.all (·.oneCell')=true:=by rw [<-hC];exact sv_one _ _ _
 clear hC hn hc72 hr hb
 go_enter Tryz.func58,Tryz.ntmps58
 go_upto_region 1 with fail
 have T0:=(HR.start (held0 w [] (λ_ h=>by cases h))).new C 94 rfl
 have hN1:(w.alloc (.cells C 94)).heap.size=w.heap.size+1:=by simp
 have ez:(#[.int .u8 0,.int .u8 0,.int .u8 0,.int .u8 0,.int .u8 0,.int .u8 0,.int .u8 0,.int .u8 0,.int .u8 0,.int .u8 0,.int .u8 0,.int .u8 0,.int .u8 0,.int .u8 0,.int .u8 0,.int .u8 0,.int .u8 0,.int .u8 0,.int .u8 0,.int .u8 0,.int .u8 0,.int .u8 0,.int .u8 0,.int .u8 0,.int .u8 0,.int .u8 0,.int .u8 0,.int .u8 0,.int .u8 0,.int .u8 0,.int .u8 0,.int .u8 0]:Array Value)=(byteVals (List.replicate 32 0)).toArray:=by kernel_rfl
 rw [ez]
 have T:=aI (T0.new (byteVals (List.replicate 32 0)).toArray 97 hN1)
 clear ez T0 hN1
 generalize (w.alloc (.cells C 94)).alloc (.cells (byteVals (List.replicate 32 0)).toArray 97)=W1 at T ⊢
 generalize w.heap.size+1=N2 at T ⊢
 generalize w.heap.size=N1 at T ⊢
 have c72:=((T.out.box (.tail _ (.head _))).cell 72).trans HC.out
 obtain ⟨n8,hn8⟩:=aX (8*n)
 have e8:(8:Int)*(n:Int)=(n8:Int):=by omega
 have w8:IntKind.u64.wrap (n8:Int)=(n8:Int):=by simp only [IntKind.wrap,IntKind.signed,IntKind.bits];simp;omega
 go_upto_region 2 with fail
 clear c72
 go_upto_region 3 with fail
 obtain ⟨M3,h3,-⟩:=T.out.take ((zf _ _).alloc (ag _) (.cells #[.int .u8 128] 5)) (own_lit (w:=W1) (base:=W1.heap.size) (e:=5) (.int .u8 128) (ag _))
 have T2:=aI h3
 clear h3 T
 generalize W1.alloc (.cells #[.int .u8 128] 5)=W2 at T2 ⊢
 go_loopg [4] (Sha.fill n) (λr u wr=>∃(L:Nat) (M:List Nat),L+r=1+Sha.fill n/\1<=L/\HR w [] M [(N2,97,(byteVals (List.replicate 32 0)).toArray),(N1,94,C)] [⟨5,1,u,L,byteVals (padZ L)⟩] [] wr)
 case atStart=>exact ⟨1,_,by omega,ag _,T2.out⟩
 case round =>
  clear T2
  obtain ⟨L,M,hL,hL1,hT⟩:=hrel
  obtain ⟨wo,rfl⟩:=aY wr
  have T:=aI hT
  clear hT
  obtain ⟨A4,c4,rfl⟩:=T.out.form (.head _)
  have c72:=((T.out.box (.tail _ (.head _))).cell 72).trans HC.out
  have wn:IntKind.i64.wrap (n:Int)=(n:Int):=wrapI (by unfold inI;omega)
  obtain ⟨q,hq⟩:=aX (n+L)
  have eq1:(n:Int)+(L:Int)=(q:Int):=by omega
  have wq:IntKind.i64.wrap (q:Int)=(q:Int):=wrapI (by unfold inI;omega)
  by_cases hlt:L < 1+Sha.fill n
  .have hne:=HNO.out (L - 1) (by omega)
   have hqn:¬(q:Int) % 64=56:=by omega
   have hqb:((q:Int) % 64 != 56)=true:=by rw [bne_iff_ne];exact hqn
   have HSN:=aI (show byteVals (padZ L)++[.int .u8 0]=byteVals (padZ (L+1)) by rw [<-padZ_snoc hL1,<-byteVals_snoc];rfl)
   clear hne hqn
   go_wp2_with (at_builtin;refine wpList_append_rows (by rfl) _ _ 35 (by rfl) 5 i0 _ 1 1 Tryz.underlying35 hi hz0 hz1 hz2 rfl (by decide) (T.out.below (aP _ _)) (by rfl) _ _ 1 1 [.int .u8 0] (by rfl) (reads_blk (zj _ _ _) rfl) (byte_one 0) (by unfold maxLen;omega) (by omega) ?_;intro v9 w9 M9 h9 _;rw [HSN.out] at h9;replace T:=aI h9;clear h9)
   go_roundg (gk - 1)
   case measure=>omega
   case rel=>exact ⟨L+1,_,by omega,by omega,T.out⟩
  .have hqb:((q:Int) % 64 != 56)=false:=by
    have:(q:Int) % 64=56:=by omega
    rw [this];rfl
   have HLF:=aI (show L=1+Sha.fill n by omega)
   have hLb:L<=64:=by omega
   go_upto_region 6 with fail
   have HPAD:=aI (show (padZ L)++Sha.len8 n 8=Sha.pad n by rw [HLF.out];unfold padZ Sha.pad;rw [Nat.add_sub_cancel_left];rfl)
   clear c72 hqb hq eq1 wq hL
   have hPl:=padZ_len hL1
   obtain ⟨P,hP⟩:=aX (padZ L)
   rw [hP] at T HPAD hPl
   clear hP
   go_loopg [4,23] 8 (λr u v wr=>∃(i:Nat) (M:List Nat),i+r=8/\v=.int .i64 i/\HR w [] M [(N2,97,(byteVals (List.replicate 32 0)).toArray),(N1,94,C)] [⟨5,1,u,L+i,byteVals (P++Sha.len8 n i)⟩] [] wr)
   case atStart=>exact ⟨0,_,by omega,rfl,by rw [show Sha.len8 n 0=[] from rfl,zK];exact T.out⟩
   case round =>
    clear T
    obtain ⟨i,M,hi8,rfl,hT⟩:=hrel
    obtain ⟨wi,rfl⟩:=aY wr
    have T:=aI hT
    clear hT
    obtain ⟨A5,c5,rfl⟩:=T.out.form (.head _)
    by_cases hlt:i < 8
    .have i0_:(0:Int)<=(i:Int):=aa _
     have i1:(i:Int) < 8:=by omega
     obtain ⟨ai,hai⟩:=aX (8*i)
     obtain ⟨bi,hbi⟩:=aX (56 - ai)
     have ea:(8:Int)*(i:Int)=(ai:Int):=by omega
     have eb:(56:Int) - (ai:Int)=(bi:Int):=by omega
     have wa:IntKind.i64.wrap (ai:Int)=(ai:Int):=wrapI (by unfold inI;omega)
     have wb:IntKind.i64.wrap (bi:Int)=(bi:Int):=wrapI (by unfold inI;omega)
     have b0:(0:Int)<=(bi:Int):=by omega
     have b1:(bi:Int)<=64:=by omega
     obtain ⟨qs,hqs⟩:=aX (n8 / 256 ^ (7 - i))
     have hsh:(n8:Int) / 2 ^ bi=(qs:Int):=by
      have:=shr_is n8 (7 - i)
      rw [hqs,show 8*(7 - i)=bi by omega] at this
      exact this
     obtain ⟨bt,hbt⟩:=aX (UInt8.ofNat qs)
     have wq:IntKind.u8.wrap (qs:Int)=(bt.toNat:Int):=by
      rw [<-hbt]
      have:(UInt8.ofNat qs).toNat=qs % 256:=by simp
      rw [this];simp only [IntKind.wrap,IntKind.signed,IntKind.bits];simp
     have HSN:=aI (show byteVals (P++Sha.len8 n i)++[.int .u8 bt.toNat]=byteVals (P++Sha.len8 n (i+1)) by rw [byteVals_snoc,zo,<-Sha.len8_snoc,hn8,hqs,hbt])
     clear hqs hbt hai hbi
     go_wp2_with (at_builtin;refine wpList_append_rows (by rfl) _ _ 35 (by rfl) 5 i0 _ 1 1 Tryz.underlying35 hi hz0 hz1 hz2 rfl (by decide) (T.out.below (aP _ _)) (by rfl) _ _ 1 1 [.int .u8 bt.toNat] (by rfl) (reads_blk (zj _ _ _) rfl) (byte_one bt) (by unfold maxLen;omega) (by omega) ?_;intro v9 w9 M9 h9 _;rw [HSN.out] at h9;replace T:=aI h9;clear h9)
     go_roundg (gk - 1)
     case measure=>omega
     case rel=>exact ⟨i+1,_,by omega,by go_num,T.out⟩
    .obtain rfl:i=8:=by omega
     rw [HPAD.out] at T
     go_upto_region 10 with fail
     have hpl:(Sha.pad n).length<=100:=by unfold Sha.pad;simp only [zm,aK,List.length_replicate,Sha.len8_length];omega
     have CA:=aI (λ(W:World) (hk:KEnv W)=>add_any m (.agg C) ⟨(Sha.pad n).toArray⟩ W HS0.out (by rw [HN.out,show (⟨(Sha.pad n).toArray⟩:ByteArray).size=(Sha.pad n).length from by simp [ByteArray.size]];omega) hk)
     have HMP:=aI (show m++(⟨(Sha.pad n).toArray⟩:ByteArray).data.toList=Sha.padded m by unfold Sha.padded;rw [HN.out])
     have hcv:=run_str_own (P:=Tryz.prog) wi 35 9 5 Tryz.underlying35 Tryz.underlying5 Tryz.underlying9 (T.out.own _ (.head _))
     have hsz:(Tryz.prog.info? 94).map (·.size)=some C.size:=by rw [hC73];kernel_rfl
     have HSZ:=aI hsz
     have HSZ2:=aI (λ(s:Sha.St) (blk:List UInt8) (n:Nat) (h:blk.length=64)=>show (Tryz.prog.info? 94).map (·.size)=some (sv s blk n).size by rw [sv_size h];kernel_rfl)
     rw [HMP.out] at CA
     clear hsz hpl
     have hke:=HK.out wi T.out.h.bl
     go_upto_region 11 with (first | (refine wpList_load_row rfl 94 (.tmp 1) rfl N1 rfl 94 C (0,0) _ (T.out.box (.tail _ (.head _))) Tryz.underlying94 rfl HSZ.out ?_;(try simp only [zn])) | (go_at_call 57;refine (CA.out _ hke).mono ?_;rintro e w9 ⟨v9,rfl,hst,hb9⟩;obtain ⟨blk2,hb2,hr2,rfl⟩:=hst;replace T:=aI (T.out.below hb9);clear hb9 hr2) | (refine wpList_store_row rfl 94 (.tmp 1) (.tmp 39) rfl N1 _ rfl rfl 94 C (T.out.box (.tail _ (.head _))) (HSZ2.out _ _ _ hb2) (hC73.trans (sv_size hb2).symm) (sv_one _ _ _) ?_;(try simp only [zn])))
     generalize hS9:w9.setRow N1 (sv (Sha.blocks Sha.H0 (Sha.padded m)) blk2 (Sha.padded m).length)=w10
     have T2:=T.out.drop.bswap.setAll (sv (Sha.blocks Sha.H0 (Sha.padded m)) blk2 (Sha.padded m).length)
     rw [hS9] at T2
     clear hS9 hcv hke CA HMP HSZ HSZ2 HPAD T
     replace T:=aI T2
     clear T2
     obtain ⟨nn,hnn⟩:=aX ((Sha.padded m).length)
     obtain ⟨S,hS⟩:=aX (Sha.sum m)
     have hS':=hS
     unfold Sha.sum at hS'
     rw [hnn,hS'] at T ⊢
     have HS:=aI hS
     clear hS hS' hnn
     have ez:(#[.int .u8 0,.int .u8 0,.int .u8 0,.int .u8 0,.int .u8 0,.int .u8 0,.int .u8 0,.int .u8 0,.int .u8 0,.int .u8 0,.int .u8 0,.int .u8 0,.int .u8 0,.int .u8 0,.int .u8 0,.int .u8 0,.int .u8 0,.int .u8 0,.int .u8 0,.int .u8 0,.int .u8 0,.int .u8 0,.int .u8 0,.int .u8 0,.int .u8 0,.int .u8 0,.int .u8 0,.int .u8 0,.int .u8 0,.int .u8 0,.int .u8 0,.int .u8 0]:Array Value)=(byteVals (outZ S 0)).toArray:=by kernel_rfl
     go_upto_region 12 with fail
     have T6:=aI (T.out.bswap.new (byteVals (outZ S 0)).toArray 97 rfl)
     clear ez T
     generalize w10.alloc (.cells (byteVals (outZ S 0)).toArray 97)=w11 at T6 ⊢
     generalize w10.heap.size=N6 at T6 ⊢
     go_upto_region 13 with fail
     go_loopg [40] 32 (λr u wr=>∃(i:Nat) (M:List Nat),i+r=32/\u=.int .i64 i/\HR w [] M [(N6,97,(byteVals (outZ S i)).toArray),(N2,97,(byteVals (List.replicate 32 0)).toArray),(N1,94,sv S blk2 nn)] [] [] wr)
     case atStart=>exact ⟨0,_,by omega,rfl,T6.out⟩
     case round =>
      clear T6
      obtain ⟨i,M6,hi32,rfl,hT⟩:=hrel
      obtain ⟨wi,rfl⟩:=aY wr
      have T:=aI hT
      clear hT
      by_cases hlt:i < 32
      .have i0_:(0:Int)<=(i:Int):=aa _
       have i1:(i:Int) < 32:=by omega
       obtain ⟨d,hd⟩:=aX (i / 4)
       obtain ⟨r,hr⟩:=aX (i % 4)
       obtain ⟨a,ha⟩:=aX (24 - 8*r)
       have d1:(d:Int) < 8:=by omega
       have d0:(0:Int)<=(d:Int):=by omega
       have sc:=((T.out.box (.tail _ (.tail _ (.head _)))).cell d).trans (sv_g (by omega))
       have z:=((T.out.box (.head _)).cell i).trans (outZ_get S i hlt)
       have f:=(T.out.box (.head _)).frozen i
       go_wp2_with fail
       have eB:(Sha.g S.l d / 2 ^ a % 256:Int)=((Sha.outB S i).toNat:Int):=by
        unfold Sha.outB
        rw [hd,hr,ha]
        obtain ⟨z_,hz_⟩:=aX (Sha.g S.l d / 2 ^ a)
        rw [hz_]
        have h0:=Int.emod_nonneg z_ (show (256:Int)≠0 by decide)
        have h1:=Int.emod_lt_of_pos z_ (show (0:Int) < 256 by decide)
        rw [UInt8.toNat_ofNat']
        omega
       rw [eB]
       have T7:=T.out.set0 i (.int .u8 (Sha.outB S i).toNat)
       rw [outZ_set S i hlt] at T7
       go_roundg (gk - 1)
       case measure=>omega
       case rel=>exact ⟨i+1,M6,by omega,by go_num,T7⟩
      .obtain rfl:i=32:=by omega
       have e32:(byteVals (outZ S 32)).toArray=(byteVals (Sha.out S 32)).toArray:=by unfold outZ;simp
       rw [e32] at T
       clear e32
       have h32:(Tryz.prog.info? 97).map (·.size)=some (byteVals (Sha.out S 32)).toArray.size:=by rw [out32_size];kernel_rfl
       have h1:(byteVals (Sha.out S 32)).toArray.all (·.oneCell')=true:=out32_one S
       have hz3:(byteVals (List.replicate 32 0)).toArray.size=(byteVals (Sha.out S 32)).toArray.size:=by rw [out32_size];simp [byteVals_length]
       obtain ⟨O,hO⟩:=aX ((byteVals (Sha.out S 32)).toArray)
       obtain ⟨Z,hZ⟩:=aX ((byteVals (List.replicate 32 0)).toArray)
       have HO:=aI hO
       rw [hO] at T h32 h1 hz3
       rw [hZ] at T hz3
       clear hO hZ
       go_upto_region 17 with fail
       refine wp_region_lit ?_
       refine wpList_load_row rfl 97 (.tmp 6) rfl N6 rfl 97 O (0,0) _ (T.out.box (.head _)) Tryz.underlying97 rfl h32 ?_;(try simp only [zn])
       refine wpList_store_row rfl 97 (.tmp 2) (.tmp 57) rfl N2 O rfl rfl 97 _ (T.out.box (.tail _ (.head _))) h32 hz3 h1 ?_
       have T5:=aI (T.out.bswap.setAll O)
       generalize wi.setRow N2 O=W9 at T5 ⊢
       go_wp2_with fail
       exact zi (v:=.agg O) (results_cell_row Tryz.results58 _ _ _ _ _ _ _ rfl (T5.out.box (.head _)) Tryz.underlying97 rfl h32) rfl ⟨by rw [HS.out,HO.out],T5.out.h.bl⟩
theorem bytes_any (s:ByteArray) (w:World) (hs:s.size<=1000000):Calls Tryz.prog 42 #[.string s] w (BytesP (Sx.encB s) w):=by
 obtain ⟨i0,hi,hz0,hz1,hz2⟩:=zq infoU8
 have T0:=aI (held0 w [] (λ_ h=>by cases h))
 have CI:=aI (int_any (s.size:Int) w (by unfold inI;omega))
 have hl:s.data.toList.length=s.size:=by rw [Vm.strLn]
 have hil:=En.int_le (s.size:Int)
 obtain ⟨m,hm⟩:=aX ((En.int (s.size:Int)).length)
 have HEQ:=aI (show byteVals (En.int (s.size:Int))++Lib.strCells s=byteVals (Sx.encB s) by rw [strCells_is,<-byteVals_append];rfl)
 have HLE:=aI (show m+s.size=(Sx.encB s).length by rw [show Sx.encB s=En.int (s.size:Int)++s.data.toList from rfl,aK,hm,hl])
 unfold BytesP at CI
 rw [hm] at CI hil
 clear hm hl
 go_enter Tryz.func42,Tryz.ntmps42
 go_wp2_with (first | (go_at_call 17;((with_reducible refine CI.out.mono ?_);rintro e w1 ⟨v,rfl,hown,hb⟩;obtain ⟨M1,h1,_⟩:=T0.out.take hb hown;have T:=aI h1;clear h1 hown hb)) | (at_builtin;refine wpList_append_str (by rfl) _ _ 35 9 (by rfl) 5 i0 Tryz.underlying35 Tryz.underlying9 hi hz0 hz1 hz2 T.out (by rfl) s (by rfl) (by omega) ?_;intro v5 w5 M5 h5 _;rw [HEQ.out,HLE.out] at h5;replace T:=aI h5;clear h5))
 go_ret
 exact ⟨_,rfl,T.out.own,T.out.h.bl⟩
theorem strings_any (l:List ByteArray) (A:Option Addr) (c:Nat) (w:World) (hl:SlAt [] w A l) (hm:l.length<=1000) (hs:∀s∈l,s.size<=100000):Calls Tryz.prog 49 #[.slice A l.length c] w (BytesP (Sx.encS l) w):=by
 obtain ⟨i0,hi,hz0,hz1,hz2⟩:=zq infoU8
 obtain ⟨n,hn⟩:=aX l.length
 rw [hn]
 rw [hn] at hm
 have T0:=aI ((held0 w [] (λ_ h=>by cases h)).add (keeps_sl A l) hl)
 have HN:=aI hn
 have CI:=aI (int_any (n:Int) w (by unfold inI;omega))
 have HZ:=aI (show En.int (n:Int)=Sx.accS l 0 by rw [Sx.accS_zero,hn])
 have HEND:=aI (show Sx.accS l n=Sx.encS l by rw [<-hn];exact Sx.accS_all l)
 have HS:=aI hs
 clear hl hn hs
 go_enter Tryz.func49,Tryz.ntmps49
 go_wp2_with (go_at_call 17;(with_reducible refine CI.out.mono ?_);rintro e w1 ⟨v,rfl,hown,hb⟩;obtain ⟨M1,h1,_⟩:=T0.out.take hb hown;have T:=aI h1;clear h1 hown hb)
 rw [HZ.out] at T
 go_loopg [3,11] n (λr v i wr=>∃(k:Nat) (M:List Nat),k+r=n/\i=.int .i64 k/\HRow w [] M [] [λM W=>SlAt M W A l] 5 1 v (Sx.accS l k).length (byteVals (Sx.accS l k)) wr)
 case atStart=>exact ⟨0,_,by omega,rfl,T.out⟩
 case round =>
  obtain ⟨k,M,hk,rfl,hH⟩:=hrel
  obtain ⟨wo,rfl⟩:=aY wr
  replace T:=aI hH
  clear hH
  by_cases hlt:k < n
  .have hkl:k < l.length:=by rw [HN.out];exact hlt
   have k0:(0:Int)<=(k:Int):=aa _
   have k1:(k:Int) < (n:Int):=by omega
   obtain ⟨b,o,rfl,_,c0,_⟩:=str_at (T.out.h.fact (.head _)) k hkl
   have HSN:=aI (Sx.accS_snoc l k hkl)
   have hle:=Sx.accS_le HS.out k
   have hsz:=HS.out _ (ze hkl)
   obtain ⟨x,hxx⟩:=aX (l[k])
   rw [hxx] at c0 hsz HSN
   have CX:=aI (bytes_any x wo (by omega))
   have hxl:=Sx.encB_le hsz
   obtain ⟨na,hna⟩:=aX ((Sx.accS l k).length)
   obtain ⟨nb,hnb⟩:=aX ((Sx.encB x).length)
   rw [hna] at hle T
   rw [hnb] at hxl
   have HNL:=aI (show na+nb=(Sx.accS l (k+1)).length by rw [<-HSN.out,aK,hna,hnb])
   unfold BytesP at CX
   rw [hnb] at CX
   have hle2:na<=200000000:=by
    have:(100000+9)*(k+1)<=(100000+9)*1000:=Nat.mul_le_mul_left _ (by omega)
    omega
   clear hna hnb hxx hle
   go_wp2_with (first | (go_at_call 42;(with_reducible refine CX.out.mono ?_);rintro e w1 ⟨v,rfl,hown,hb⟩;obtain ⟨Ab,cb,rfl⟩:=zP hown;replace T:=aI (T.out.below hb);have HR:=aI (reads_own hown);clear hown hb) | (at_builtin;refine wpList_append_row (by rfl) _ _ 35 (by rfl) 5 i0 _ 1 1 Tryz.underlying35 hi hz0 hz1 hz2 rfl (by decide) T.out (by rfl) _ _ nb _ (byteVals (Sx.encB x)) (by rfl) HR.out (byteVals_one _) (by unfold maxLen;omega) (by omega) ?_;intro v5 w5 M5 h5 _;rw [<-byteVals_append,HSN.out,HNL.out] at h5;replace T:=aI h5;clear h5))
   go_roundg (gk - 1)
   case measure=>omega
   case rel=>exact ⟨k+1,_,by omega,by go_num,T.out⟩
  .have hkn:k=n:=by omega
   subst hkn
   rw [HEND.out] at T
   go_wp2_with fail
   go_ret
   exact ⟨_,rfl,T.out.own,T.out.h.bl⟩
def IsSt (m:List UInt8) (v:Value) (_:World):Prop:=StV m v
theorem isSt_kept (m:List UInt8):Kept (IsSt m):=λ_ _ _ h _=>h
theorem StV.form {m:List UInt8} {v:Value} (h:StV m v):∃C:Array Value,v=.agg C/\C.size=73/\C.all (·.oneCell')=true:=by
 obtain ⟨blk,hb,_,rfl⟩:=h
 exact ⟨_,rfl,sv_size hb,sv_one _ _ _⟩
def acc1 (tb:UInt8) (s:ByteArray) (k:Nat):List UInt8:=tb::(if k=0 then [] else Sx.encB s)
theorem acc1_one (tb:UInt8) (s:ByteArray):Sha.out (Sha.sum (acc1 tb s 1)) 32=Sha.out (Sha.sum (tb::(En.int s.data.toList.length++s.data.toList))) 32:=by
 rw [show s.data.toList.length=s.size by rw [Vm.strLn]];rfl
theorem acc1_le (tb:UInt8) (s:ByteArray) (hs:s.size<=1000000):(acc1 tb s 1).length<=1000010:=by
 have:=Sx.encB_le hs
 show ((Sx.encB s).length+1)<=_
 omega
theorem acc1_fits (tb:UInt8) (s:ByteArray) (hs:s.size<=1000000):(acc1 tb s 0).length+(⟨(Sx.encB s).toArray⟩:ByteArray).size<=1000000000:=by
 have:=Sx.encB_le hs
 show 0+1+(Sx.encB s).length<=_
 omega
theorem out_pre (S:Sha.St):(Sha.out S 32).take 16=Sha.out S 16:=by unfold Sha.out;rw [<-List.map_take,List.take_range];rfl
theorem sizeStrm {C:Array Value} (h:C.size=73):(Tryz.prog.info? 94).map (·.size)=some C.size:=by rw [h];kernel_rfl
theorem of_any (tag:Nat) (s:ByteArray) (A:Option Addr) (c:Nat) (w:World) (hsl:SlAt [] w A [s]) (hs:s.size<=1000000) (hk:KEnv w):Calls Tryz.prog 18 #[.int .i64 tag,.slice A 1 c] w λe w'=>e=.returned (.agg (byteVals (Sha.one (UInt8.ofNat tag) s.data.toList)).toArray)/\Below w.heap.size w w':=by
 obtain ⟨tb,htb⟩:=aX (UInt8.ofNat tag)
 have wt:IntKind.u8.wrap (tag:Int)=(tb.toNat:Int):=by
  rw [<-htb,UInt8.toNat_ofNat']
  simp only [IntKind.wrap,IntKind.signed,IntKind.bits];simp
 rw [htb]
 have CB:=aI (begin_any)
 have CA:=aI (add_any)
 have HK:=aI (λ(W:World) (h:Below w.heap.size w W)=>hk.to h)
 have T0:=aI ((held0 w [] (λ_ h=>by cases h)).add (keeps_sl A [s]) hsl)
 clear htb hsl
 go_enter Tryz.func18,Tryz.ntmps18
 go_upto_region 1 with fail
 have ez:(#[.int .u8 0,.int .u8 0,.int .u8 0,.int .u8 0,.int .u8 0,.int .u8 0,.int .u8 0,.int .u8 0,.int .u8 0,.int .u8 0,.int .u8 0,.int .u8 0,.int .u8 0,.int .u8 0,.int .u8 0,.int .u8 0]:Array Value)=(byteVals (List.replicate 16 0)).toArray:=by kernel_rfl
 rw [ez]
 have T:=aI ((HR.start T0.out).new (byteVals (List.replicate 16 0)).toArray 38 rfl)
 clear ez T0
 generalize w.alloc (.cells (byteVals (List.replicate 16 0)).toArray 38)=W1 at T ⊢
 generalize w.heap.size=N4 at T ⊢
 have hb1:=below_drewS W1
 apply zy (C:=λw'=>Below W1.heap.size W1 w') (n:=32) (m:=7) (l1:=[_,_,_,_,_,_,_]) (l2:=[_]);rfl;rfl;kernel_rfl;rfl;kernel_rfl;exact hb1;exact aR
 apply zF (isSt_kept [])
 .intro w' hC hf;unfold Gives;clear hf hC
  go_wp2_with (go_at_call 56;refine (CB.out _).mono ?_;rintro e w2 ⟨v,rfl,hst,hb⟩;have HST:=aI hst;have HBL:=aI hb;clear hst hb)
  apply zJ rfl HBL.out;simp only [zC];exact HST.out
 intro v9;(try simp only [zn])
 iterate 2 ((apply aJ;·(intro w' hC hf;clear hf hC;go_wp2_with (fail);apply aO;simp only [zC];exact rfl));(try simp only [zn]))
 apply zF (slBlk_kept 1 5 #[.int .u8 tb.toNat])
 .intro w' hC hf;unfold Gives;clear hf hC;go_wp2_with fail;apply zJ rfl (by go_grown);simp only [zC];exact ⟨_,rfl,zj _ _ _⟩
 intro vsl;(try simp only [zn])
 apply wpT_exact (c:=.string ⟨#[tb]⟩)
 .intro w' hC hf;unfold Gives
  obtain ⟨g,rfl,hB⟩:=hf.1 rfl
  have hcv:=run_str_own (P:=Tryz.prog) w' 35 9 5 Tryz.underlying35 Tryz.underlying5 Tryz.underlying9 (l:=[tb]) (base:=0) (n:=1) (v:=.slice (some ⟨g,0,none⟩) 1 1) ⟨rfl,.inr ⟨g,1,#[.int .u8 tb.toNat],rfl,zN _,hB,ag _,by decide,rfl,rfl⟩⟩
  clear hf hC hB
  go_wp2_with fail
  apply aO;simp only [zC]
 (try simp only [zn])
 apply zF (isSt_kept [tb])
 .intro w' hC hf;unfold Gives
  have h0:=hf.2.1 rfl
  have hke:=HK.out w' (T.out.h.bl.trans (hC.mono T.out.h.bl.size))
  have CA1:=aI (CA.out [] v9 ⟨#[tb]⟩ w' h0 (show 0+1<=1000000000 by decide) hke)
  clear hf hC h0 hke
  go_wp2_with (go_at_call 57;refine CA1.out.mono ?_;rintro e w2 ⟨v,rfl,hst,hb⟩;have HST:=aI hst;have HBL:=aI hb;clear hst hb)
  apply zJ rfl HBL.out;simp only [zC];exact HST.out
 intro v14;(try simp only [zn])
 apply zF (atBlk_kept W1.heap.size 94 Tryz.zeroCells94)
 .intro w' hC hf;unfold Gives
  have HC:=aI hC
  clear hf hC
  go_wp2_with fail
  apply zJ rfl (by go_grown);simp only [zC];exact ⟨_,rfl,HC.out.size,zj _ _ _⟩
 intro v5;(try simp only [zn])
 apply wpT_done
 intro w4 hC hall
 obtain ⟨N5,rfl,hN5,hB5⟩:=hall.1
 obtain ⟨C0,rfl,h73,hone⟩:=StV.form hall.2.1
 have hst0:StV (acc1 tb s 0) (.agg C0):=hall.2.1
 have HST:=aI hst0
 have T4:=aI (HR.start (T.out.h.adopt hC hN5 hB5))
 have h94:Tryz.zeroCells94.size=C0.size:=by rw [h73];kernel_rfl
 clear hall hC hB5 hb1 T hst0
 refine wpList_store_row rfl 94 (.tmp 5) (.tmp 14) rfl N5 C0 rfl rfl 94 _ (T4.out.box (.head _)) (sizeStrm h73) h94 hone ?_
 have T:=aI (T4.out.setAll C0)
 generalize w4.setRow N5 C0=W5 at T ⊢
 clear T4 h94
 go_wp2_with fail
 go_loopg [7,17] 1 (λr u v wr=>∃(k:Nat) (C:Array Value) (M:List Nat),k+r=1/\v=.int .i64 k/\C.size=73/\C.all (·.oneCell')=true/\StV (acc1 tb s k) (.agg C)/\HR w [] M [(N5,94,C),(N4,38,(byteVals (List.replicate 16 0)).toArray)] [] [λM W=>SlAt M W A [s]] wr)
 case atStart=>exact ⟨0,C0,_,rfl,rfl,h73,hone,HST.out,T.out⟩
 case round =>
  clear T HST h73 hone
  obtain ⟨k,C,M,hk1,rfl,h73,hone,hst,hT⟩:=hrel
  obtain ⟨wo,rfl⟩:=aY wr
  have T:=aI hT
  have HST:=aI hst
  clear hT hst
  by_cases hlt:k < 1
  .obtain rfl:k=0:=by omega
   obtain ⟨b,o,rfl,_,c0,_⟩:=str_at (T.out.fact (.head _)) 0 Nat.zero_lt_one
   rw [zW] at c0
   have c0:wo.cell? ⟨b,o,none⟩=some (.string s):=c0
   go_upto_region 5 with fail
   clear c0
   have T1:=T.out.drew
   apply zy (C:=λw'=>HR w [] M [(N5,94,C),(N4,38,(byteVals (List.replicate 16 0)).toArray)] [] [λM W=>SlAt M W (some ⟨b,o,none⟩) [s]] w') (n:=32) (m:=5) (l1:=[_,_,_,_,_]) (l2:=[_]);rfl;rfl;kernel_rfl;rfl;kernel_rfl;exact T1;exact λu u' h hb=>(by first | exact h.below hb | exact h.trans (hb.mono h.size))
   apply wpT_exact (c:=.agg C)
   .intro w' hC hf;unfold Gives
    have hbx:=hC.box (.head _)
    clear hf hC
    go_wp2_with (refine wpList_load_row rfl 94 (.tmp 5) rfl N5 rfl 94 C (0,0) _ hbx Tryz.underlying94 rfl (sizeStrm h73) ?_;(try simp only [zn]))
    apply aO;simp only [zC]
   (try simp only [zn])
   (apply aJ;·(intro w' hC hf;clear hf hC;go_wp2_with (fail);apply aO;simp only [zC];exact rfl));(try simp only [zn])
   apply zF (isBytes_kept (Sx.encB s))
   .intro w' hC hf;unfold Gives;clear hf hC
    have CX:=aI (bytes_any s w' hs)
    go_wp2_with (go_at_call 42;refine CX.out.mono ?_;rintro e w2 ⟨v,rfl,hown,hb⟩;have HO:=aI hown;have HBL:=aI hb;clear hown hb)
    apply zJ rfl HBL.out;simp only [zC];exact ⟨_,HO.out⟩
   intro vb;(try simp only [zn])
   apply wpT_exact (c:=.string ⟨(Sx.encB s).toArray⟩)
   .intro w' hC hf;unfold Gives
    obtain ⟨base,hown⟩:=hf.1 rfl
    have hcv:=run_str_own (P:=Tryz.prog) w' 35 9 5 Tryz.underlying35 Tryz.underlying5 Tryz.underlying9 hown
    clear hf hC hown
    go_wp2_with fail
    apply aO;simp only [zC]
   (try simp only [zn])
   apply zF (isSt_kept (acc1 tb s 1))
   .intro w' hC hf;unfold Gives
    have hke:=HK.out w' hC.h.bl
    have CA1:=CA.out (acc1 tb s 0) (.agg C) ⟨(Sx.encB s).toArray⟩ w' HST.out (acc1_fits tb s hs) hke
    rw [show acc1 tb s 0++(⟨(Sx.encB s).toArray⟩:ByteArray).data.toList=acc1 tb s 1 from rfl] at CA1
    replace CA1:=aI CA1
    clear hf hC hke
    go_wp2_with (go_at_call 57;refine CA1.out.mono ?_;rintro e w2 ⟨v,rfl,hst,hb⟩;have HS2:=aI hst;have HBL:=aI hb;clear hst hb)
    apply zJ rfl HBL.out;simp only [zC];exact HS2.out
   intro v25;(try simp only [zn])
   apply wpT_done
   intro w4 hC hall
   obtain ⟨C2,rfl,h732,hone2⟩:=StV.form hall.1
   have HS3:=aI (show StV (acc1 tb s 1) (.agg C2) from hall.1)
   have T4:=hC
   clear hall hC T T1
   refine wpList_store_row rfl 94 (.tmp 5) (.tmp 25) rfl N5 C2 rfl rfl 94 _ (T4.box (.head _)) (sizeStrm h732) (h73.trans h732.symm) hone2 ?_
   have T:=aI (T4.setAll C2)
   generalize w4.setRow N5 C2=W8 at T ⊢
   clear T4
   go_wp2_with fail
   go_roundg (gk - 1)
   case measure=>omega
   case rel=>exact ⟨1,C2,M,by omega,by go_num,h732,hone2,HS3.out,T.out⟩
  .obtain rfl:k=1:=by omega
   have CS:=λW h=>ssum_any (acc1 tb s 1) (.agg C) W HST.out (Nat.le_trans (acc1_le tb s hs) (by decide)) h
   obtain ⟨S,hS⟩:=aX (Sha.sum (acc1 tb s 1))
   have HEND:=aI (show Sha.out S 16=Sha.one tb s.data.toList by rw [<-hS,<-out_pre,acc1_one,out_pre];rfl)
   rw [hS] at CS
   have h32:(Tryz.prog.info? 97).map (·.size)=some (byteVals (Sha.out S 32)).toArray.size:=by rw [out32_size];kernel_rfl
   have h1:(byteVals (Sha.out S 32)).toArray.all (·.oneCell')=true:=out32_one S
   have hz3:(#[.int .u8 0,.int .u8 0,.int .u8 0,.int .u8 0,.int .u8 0,.int .u8 0,.int .u8 0,.int .u8 0,.int .u8 0,.int .u8 0,.int .u8 0,.int .u8 0,.int .u8 0,.int .u8 0,.int .u8 0,.int .u8 0,.int .u8 0,.int .u8 0,.int .u8 0,.int .u8 0,.int .u8 0,.int .u8 0,.int .u8 0,.int .u8 0,.int .u8 0,.int .u8 0,.int .u8 0,.int .u8 0,.int .u8 0,.int .u8 0,.int .u8 0,.int .u8 0]:Array Value).size=(byteVals (Sha.out S 32)).toArray.size:=by rw [out32_size];rfl
   have hra:∀W:World,∀N:Nat,Blk W N 97 (byteVals (Sha.out S 32)).toArray->W.rangeAt N 0 (byteVals (Sha.out S 16)):=λW N hB j v hv=>by
    have hj:=(List.getElem?_eq_some_iff.1 hv).1
    rw [byteVals_length,Sha.out_length] at hj
    show W.cell? ⟨N,0+j,none⟩=_
    rw [zG,hB.cell,aE,<-hv,<-out_pre S]
    unfold byteVals
    rw [List.map_take,List.getElem?_take,if_pos hj]
   obtain ⟨O,hO⟩:=aX ((byteVals (Sha.out S 32)).toArray)
   rw [hO] at CS h32 h1 hz3 hra
   replace CS:=aI CS
   have HRA:=aI hra
   clear hO hS hra
   have hke:=HK.out wo T.out.h.bl
   go_upto_region 7 with fail
   go_upto_region 8 with (first | (refine wpList_load_row rfl 94 (.tmp 5) rfl N5 rfl 94 C (0,0) _ (T.out.box (.head _)) Tryz.underlying94 rfl (sizeStrm h73) ?_;(try simp only [zn])) | (go_at_call 58;refine (CS.out _ hke).mono ?_;rintro e w9 ⟨rfl,hb9⟩;replace T:=aI (T.out.below hb9);clear hb9) | (refine wpList_store_last rfl 97 (.tmp 8) (.tmp 28) rfl O rfl rfl hz3 h32 h1 ?_;(try simp only [zn])))
   have T2:=aI (T.out.new O 97 rfl).box3
   generalize w9.alloc (.cells O 97)=W12 at T2 ⊢
   generalize w9.heap.size=N8 at T2 ⊢
   clear T
   have P1:=λw':World=>run_arrayAt (P:=Tryz.prog) w' 38 _ 16 Tryz.underlying38 ⟨N8,0,none⟩ 16 32 (by decide)
   have h16:(Tryz.prog.info? 38).map (·.size)=some (byteVals (Sha.out S 16)).length:=by rw [byteVals_length,Sha.out_length];kernel_rfl
   have h16':(Tryz.prog.info? 38).map (·.size)=some (byteVals (Sha.out S 16)).toArray.size:=h16
   have hz16:(byteVals (List.replicate 16 0)).toArray.size=(byteVals (Sha.out S 16)).toArray.size:=by simp [byteVals_length,Sha.out_length]
   have h116:(byteVals (Sha.out S 16)).toArray.all (·.oneCell')=true:=by
    rw [Array.all_eq_true_iff_forall_mem]
    exact λu hu=>byteVals_one _ u (List.mem_toArray.1 hu)
   obtain ⟨D,hD⟩:=aX (byteVals (Sha.out S 16))
   rw [hD] at h16 h16' hz16 h116 HRA
   rw [HEND.out] at hD
   have HD:=aI hD
   clear hD HEND
   refine wp_region_lit ?_
   go_wp2_with (first | (refine wpList_load_mid rfl 38 (.tmp 30) rfl N8 0 rfl D _ (HRA.out _ N8 (T2.out.box (.tail _ (.head _)))) Tryz.underlying38 rfl h16 ?_;(try simp only [zn])) | (refine wpList_store_row rfl 38 (.tmp 4) (.tmp 31) rfl N4 D.toArray rfl rfl 38 _ (T2.out.box (.head _)) h16' hz16 h116 ?_;(try simp only [zn]);have T5:=aI (T2.out.setAll D.toArray);generalize W12.setRow N4 D.toArray=W9 at T5 ⊢))
   exact zi (v:=.agg D.toArray) (results_cell_row Tryz.results18 _ _ _ _ _ _ _ rfl (T5.out.box (.head _)) Tryz.underlying38 rfl h16') rfl ⟨by rw [HD.out],T5.out.h.bl⟩
end
end Go.Proofs.YtobcnhmhgoccnaaGreatDoor
