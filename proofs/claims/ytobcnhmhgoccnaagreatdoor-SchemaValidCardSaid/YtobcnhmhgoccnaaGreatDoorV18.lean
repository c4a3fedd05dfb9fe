/- Parts of the proof, joined: ShaR1, ShaR2, ShaR3, SyGrow, SyLs. -/
import Derived.Test.YtobcnhmhgoccnaaGreatDoorV17
import Derived.Lib.AppendZerosOnto
set_option maxRecDepth 100000
set_option maxHeartbeats 8000000
set_option linter.unusedVariables false
set_option linter.unusedSimpArgs false
set_option linter.unusedSectionVars false
namespace Go.Proofs.YtobcnhmhgoccnaaGreatDoor
open Go Go.RowKit
section
theorem flat_u8 {G:List Nat} {w:World}:∀{l:List UInt8} {xs:List Value},Flat G w l xs->xs=byteVals l
 | [],_,h=>h
 | b::l,_,h=>by
  obtain ⟨us,ts,rfl,h1,h2⟩:=h
  rw [flat_u8 h2,show us=[.int .u8 b.toNat] from h1];rfl
theorem reads_u8 {G:List Nat} {w:World} {A:Option Addr} {l:List UInt8} (h:SlAt G w A l):Reads w w.heap.size 1 A l.length (byteVals l):=by
 obtain ⟨xs,h1,h2⟩:=SlAt.reads h
 rw [<-flat_u8 h2];exact h1
theorem rPadded_any (m:List UInt8) (A:Option Addr) (c:Nat) (w:World) (hs:SlAt [] w A m) (hl:m.length<=100000000):Calls Tryz.prog 160 #[.slice A m.length c] w (BytesP (Sha.padded m) w):=by
 obtain ⟨i0,hi,hz0,hz1,hz2⟩:=zq infoU8
 have hfz:=Sha.fill_is m.length
 have HNO:=aI (Sha.fill_no m.length)
 have T0:=aI (HR.start ((held0 w [] (λ_ h=>by cases h)).add (keeps_sl A m) hs))
 obtain ⟨n,hn⟩:=aX m.length
 rw [hn] at hl hfz HNO ⊢
 have HN:=aI hn
 have HRDS:=aI (λ(G:List Nat) (W:World) (h:SlAt G W A m)=>show Reads W W.heap.size 1 A n (byteVals m) by rw [<-hn];exact reads_u8 h)
 clear hs hn
 go_enter Tryz.func160,Tryz.ntmps160
 go_upto_region 2 with (at_builtin;obtain ⟨M3,h3,-⟩:=T0.out.take ((zf _ _).alloc (ag _) (.cells #[] 5)) (World.ownsRow_lit (e:=5) (size:=1) w #[] 0 (ag _) (by decide) rfl);refine wpList_append_rows (by rfl) _ _ 35 (by rfl) 5 i0 _ 1 1 Tryz.underlying35 hi hz0 hz1 hz2 rfl (by decide) h3 (by rfl) _ _ n c (byteVals m) (by rfl) (HRDS.out _ _ (h3.fact (.head _))) (byteVals_one _) (by unfold maxLen;omega) (by omega) ?_;intro v3 w3 M4 h4 _;rw [zG,show (#[]:Array Value).toList++byteVals m=byteVals m from rfl] at h4;have T:=aI h4;clear h3 h4)
 have HS0:=aI (show byteVals m++[.int .u8 128]=byteVals (m++padZ 1) by rw [byteVals_append];rfl)
 go_upto_region 3 with (at_builtin;refine wpList_append_rows (by rfl) _ _ 35 (by rfl) 5 i0 _ 1 1 Tryz.underlying35 hi hz0 hz1 hz2 rfl (by decide) (T.out.below (aP _ _)) (by rfl) _ _ 1 1 [.int .u8 128] (by rfl) (reads_blk (zj _ _ _) rfl) (byte_one 128) (by unfold maxLen;omega) (by omega) ?_;intro v9 w9 M9 h9 _;rw [HS0.out] at h9;replace T:=aI h9;clear h9)
 go_loopg [3] (Sha.fill n) (λr u wr=>∃(L:Nat) (M:List Nat),L+r=1+Sha.fill n/\1<=L/\HR w [] M [] [⟨5,1,u,n+L,byteVals (m++padZ L)⟩] [λM W=>SlAt M W A m] wr)
 case atStart=>exact ⟨1,_,by omega,ag _,T.out⟩
 case round =>
  clear T
  obtain ⟨L,M,hL,hL1,hT⟩:=hrel
  obtain ⟨wo,rfl⟩:=aY wr
  have T:=aI hT
  clear hT
  obtain ⟨A4,c4,rfl⟩:=T.out.form (.head _)
  obtain ⟨q,hq⟩:=aX (n+L)
  rw [hq] at T ⊢
  by_cases hlt:L < 1+Sha.fill n
  .have hne:=HNO.out (L - 1) (by omega)
   have hqn:¬(q:Int) % 64=56:=by omega
   have hqb:((q:Int) % 64 != 56)=true:=by rw [bne_iff_ne];exact hqn
   have HSN:=aI (show byteVals (m++padZ L)++[.int .u8 0]=byteVals (m++padZ (L+1)) by rw [<-padZ_snoc hL1,<-zo,<-byteVals_snoc];rfl)
   have HQ:=aI hq
   have hq2:q<=100000064:=by omega
   clear hne hqn hq
   go_wp2_with (at_builtin;refine wpList_append_rows (by rfl) _ _ 35 (by rfl) 5 i0 _ 1 1 Tryz.underlying35 hi hz0 hz1 hz2 rfl (by decide) (T.out.below (aP _ _)) (by rfl) _ _ 1 1 [.int .u8 0] (by rfl) (reads_blk (zj _ _ _) rfl) (byte_one 0) (by unfold maxLen;omega) (by omega) ?_;intro v9 w9 M9 h9 _;rw [HSN.out] at h9;replace T:=aI h9;clear h9)
   go_roundg (gk - 1)
   case measure=>omega
   case rel=>exact ⟨L+1,_,by omega,by omega,by rw [<-Nat.add_assoc,HQ.out];exact T.out⟩
  .have hqb:((q:Int) % 64 != 56)=false:=by
    have:(q:Int) % 64=56:=by omega
    rw [this];rfl
   have HLF:=aI (show L=1+Sha.fill n by omega)
   obtain ⟨n8,hn8⟩:=aX (8*n)
   have e8:(8:Int)*(n:Int)=(n8:Int):=by omega
   have w8:IntKind.u64.wrap (n8:Int)=(n8:Int):=by simp only [IntKind.wrap,IntKind.signed,IntKind.bits];simp;omega
   have wn8:IntKind.u64.wrap (n:Int)=(n:Int):=by simp only [IntKind.wrap,IntKind.signed,IntKind.bits];simp;omega
   have hq2:q<=100000064:=by omega
   have HQ:=aI hq
   clear hq
   go_upto_region 7 with fail
   have HPAD:=aI (show (m++padZ L)++Sha.len8 n 8=Sha.padded m by rw [HLF.out];unfold padZ Sha.padded Sha.pad;rw [Nat.add_sub_cancel_left,HN.out,zo];rfl)
   have HPL:=aI (show q+8=(Sha.padded m).length by rw [<-HPAD.out,aK,aK,Sha.len8_length,padZ_len hL1,HN.out,HQ.out])
   obtain ⟨P,hP⟩:=aX (m++padZ L)
   rw [hP] at T HPAD
   clear hP hqb hL
   go_loopg [3,5] 8 (λr u v wr=>∃(i:Nat) (M:List Nat),i+r=8/\v=.int .i64 i/\HR w [] M [] [⟨5,1,u,q+i,byteVals (P++Sha.len8 n i)⟩] [λM W=>SlAt M W A m] wr)
   case atStart=>exact ⟨0,_,by omega,rfl,by rw [show Sha.len8 n 0=[] from rfl,zK];exact T.out⟩
   case round =>
    clear T
    obtain ⟨i,M,hi8,rfl,hT⟩:=hrel
    obtain ⟨wi,rfl⟩:=aY wr
    have T:=aI hT
    clear hT
    obtain ⟨A5,c5,rfl⟩:=T.out.form (.head _)
    by_cases hlt:i < 8
    .have i0_:(0:Int)<=(i:Int):=aa _
     have i1:(i:Int) < 8:=by omega
     obtain ⟨ai,hai⟩:=aX (8*i)
     obtain ⟨bi,hbi⟩:=aX (56 - ai)
     have ea:(8:Int)*(i:Int)=(ai:Int):=by omega
     have eb:(56:Int) - (ai:Int)=(bi:Int):=by omega
     have wa:IntKind.i64.wrap (ai:Int)=(ai:Int):=wrapI (by unfold inI;omega)
     have wb:IntKind.i64.wrap (bi:Int)=(bi:Int):=wrapI (by unfold inI;omega)
     have b0:(0:Int)<=(bi:Int):=by omega
     have b1:(bi:Int)<=64:=by omega
     obtain ⟨qs,hqs⟩:=aX (n8 / 256 ^ (7 - i))
     have hsh:(n8:Int) / 2 ^ bi=(qs:Int):=by
      have:=shr_is n8 (7 - i)
      rw [hqs,show 8*(7 - i)=bi by omega] at this
      exact this
     obtain ⟨bt,hbt⟩:=aX (UInt8.ofNat qs)
     have wq:IntKind.u8.wrap (qs:Int)=(bt.toNat:Int):=by
      rw [<-hbt]
      have:(UInt8.ofNat qs).toNat=qs % 256:=by simp
      rw [this];simp only [IntKind.wrap,IntKind.signed,IntKind.bits];simp
     have HSN:=aI (show byteVals (P++Sha.len8 n i)++[.int .u8 bt.toNat]=byteVals (P++Sha.len8 n (i+1)) by rw [byteVals_snoc,zo,<-Sha.len8_snoc,hn8,hqs,hbt])
     clear hqs hbt hai hbi
     go_wp2_with (at_builtin;refine wpList_append_rows (by rfl) _ _ 35 (by rfl) 5 i0 _ 1 1 Tryz.underlying35 hi hz0 hz1 hz2 rfl (by decide) (T.out.below (aP _ _)) (by rfl) _ _ 1 1 [.int .u8 bt.toNat] (by rfl) (reads_blk (zj _ _ _) rfl) (byte_one bt) (by unfold maxLen;omega) (by omega) ?_;intro v9 w9 M9 h9 _;rw [HSN.out] at h9;replace T:=aI h9;clear h9)
     go_roundg (gk - 1)
     case measure=>omega
     case rel=>exact ⟨i+1,_,by omega,by go_num,T.out⟩
    .obtain rfl:i=8:=by omega
     rw [HPAD.out] at T
     go_wp2_with fail
     go_ret
     refine ⟨_,rfl,?_,T.out.h.bl⟩
     have hown:=T.out.own _ (.head _)
     rw [<-HPL.out]
     exact hown
end
section
def RKEnv (w:World):Prop:=w.rangeAt 2 0 (wv Sha.KK)
theorem RKEnv.to {w w':World} (h:RKEnv w) (hb:Below w.heap.size w w'):RKEnv w':=λj v hv=>(hb.cell (zc _ _ (h j v hv))).trans (h j v hv)
theorem RKEnv.at_ {w:World} (h:RKEnv w) {t:Nat} (ht:t < 64):w.cell? ⟨2,t,none⟩=some (.int .u32 (Sha.g Sha.KK t)):=by
 have:=h t _ (wv_get (l:=Sha.KK) ht)
 rwa [zG] at this
theorem HR.drewE {w W W':World} {G M:List Nat} {bx:List Box} {rs:List Rw} {L:List (List Nat->World->Prop)} (h:HR w G M bx rs L W) (e:∃m,W'=W.drewN m):HR w G M bx rs L W':=by
 obtain ⟨m,rfl⟩:=e
 exact h.drewN m
theorem wpList_store_form {P:Program} {ops:Array Oper} {rest:List Oper} {a:Act} {w:World} {Q:Exit->Act->World->Prop} {d:Option Tmp} {ty t':TypeId} {x y:Operand} {p:String} {af:Array Edge} (g:Nat) (cells:Array Value) (t:TypeId) (cs:Array Value) (hg:Blk w g t cs)
  (hi:(P.info? ty).map (·.size)=some cells.size) (hs:cs.size=cells.size) (h1:cells.all (·.oneCell')=true) (hx:a.eval x=.pointer (some ⟨g,0,none⟩)) (hy:a.eval y=.agg cells)
  (h:wpList P ops Q rest (a.put d undef) (w.setRow g cells)):wpList P ops Q ({ dst:=d,op:=.store ty x y,type:=t',pos:=p,after:=af,guard:=none }::rest) a w :=
 wpList_store_row rfl ty x y rfl g cells hx hy t cs hg hi hs h1 h
theorem blk_sl {w W:World} {G M:List Nat} {bx:List Box} {rs:List Rw} {L:List (List Nat->World->Prop)} {e:TypeId} {n c g k:Nat} {P:List UInt8} (h:HR w G M bx rs L W) (hr:(⟨e,1,.slice (some ⟨g,0,none⟩) n c,n,byteVals P⟩:Rw)∈rs) (hn:n=P.length) (hk:k+64<=n):SlAt [] W (some ⟨g,k,none⟩) ((P.drop k).take 64):=by
 have hc:∀j u,(byteVals P)[j]?=some u->W.cell? ⟨g,j,none⟩=some u:=λj u hu=>h.rcell hr (by omega) hu
 have hlt:g < W.heap.size:=zc _ _ (hc k _ (by rw [zp (by rw [byteVals_length];omega)]))
 refine .inr ⟨g,k,rfl,hlt,by simp,λi hi=>⟨_,rfl,λj u hu=>?_⟩⟩
 have hi':i < 64:=by rw [zI] at hi;omega
 have hj:j=0:=by
  have:=(List.getElem?_eq_some_iff.1 hu).1
  simpa using this
 subst hj
 have hu':u=.int .u8 (((P.drop k).take 64)[i]).toNat:=by simpa using hu.symm
 rw [hu']
 have h1:(byteVals P)[k+i]?=some (.int .u8 (((P.drop k).take 64)[i]).toNat):=by
  unfold byteVals
  rw [List.getElem?_map,zp (by omega)]
  simp
 have:=hc (k+i) _ h1
 rw [show k+(i*Mem.sz UInt8+0)=k+i by show k+(i*1+0)=_;omega]
 exact this
theorem v_g {s:Sha.St} {d:Nat} (h:d < 8):(s.v)[d]?=some (.int .u32 (Sha.g s.l d)):=by
 match d,h with
 | 0,_ | 1,_ | 2,_ | 3,_ | 4,_ | 5,_ | 6,_ | 7,_=>rfl
theorem blk_len {P:List UInt8} {k:Nat} (h:k+64<=P.length):((P.drop k).take 64).length=64:=by rw [zI,List.length_drop];omega
theorem Sha.take_step (P:List UInt8) (k:Nat) (h:64*k+64<=P.length):Sha.blocks Sha.H0 (P.take (64*(k+1)))=Sha.comp (Sha.blocks Sha.H0 (P.take (64*k))) ((P.drop (64*k)).take 64):=by
 have e:P.take (64*(k+1))=P.take (64*k)++(P.drop (64*k)).take 64:=by rw [show 64*(k+1)=64*k+64 by omega,List.take_add]
 have hl:((P.drop (64*k)).take 64).length=64:=by rw [zI,List.length_drop];omega
 rw [e]
 generalize (P.drop (64*k)).take 64=B at hl
 rw [Sha.blocks_append k _ _ _ (by rw [zI];omega),Sha.blocks_ge _ (by omega),List.take_of_length_le (l:=B) (by omega),Sha.blocks_lt _ (by rw [List.length_drop];omega)]
theorem rSum_any (m:List UInt8) (A:Option Addr) (c:Nat) (w:World) (hs:SlAt [] w A m) (hl:m.length<=10000000) (hk:RKEnv w):Calls Tryz.prog 137 #[.slice A m.length c] w λe w'=>e=.returned (.agg (byteVals (Sha.out (Sha.sum m) 32)).toArray)/\Below w.heap.size w w':=by
 have HK:=aI (λ(W:World) (h:Below w.heap.size w W)=>hk.to h)
 have CP:=aI (λ(W:World) (h:SlAt [] W A m)=>rPadded_any m A c W h (by omega))
 have HMOD:=aI (Sha.padded_length m)
 have hpl:(Sha.padded m).length<=10000200:=by unfold Sha.padded Sha.pad;simp only [zm,aK,List.length_replicate,Sha.len8_length];have:=(Sha.fill_is m.length).2;omega
 have HSUM:=aI (show Sha.blocks Sha.H0 (Sha.padded m)=Sha.sum m from rfl)
 obtain ⟨P,hP⟩:=aX (Sha.padded m)
 rw [hP] at CP HMOD hpl HSUM
 obtain ⟨S9,hS9⟩:=aX (Sha.sum m)
 rw [hS9] at HSUM
 have HS9:=aI hS9
 unfold BytesP at CP
 obtain ⟨np,hnp⟩:=aX P.length
 rw [hnp] at CP HMOD hpl
 have HNP:=aI hnp
 obtain ⟨n,hn⟩:=aX m.length
 rw [hn] at CP ⊢
 clear hl hP hS9 hnp hn
 go_enter Tryz.func137,Tryz.ntmps137
 go_upto_region 1 with fail
 have ez:(#[.int .u8 0,.int .u8 0,.int .u8 0,.int .u8 0,.int .u8 0,.int .u8 0,.int .u8 0,.int .u8 0,.int .u8 0,.int .u8 0,.int .u8 0,.int .u8 0,.int .u8 0,.int .u8 0,.int .u8 0,.int .u8 0,.int .u8 0,.int .u8 0,.int .u8 0,.int .u8 0,.int .u8 0,.int .u8 0,.int .u8 0,.int .u8 0,.int .u8 0,.int .u8 0,.int .u8 0,.int .u8 0,.int .u8 0,.int .u8 0,.int .u8 0,.int .u8 0]:Array Value)=(byteVals (List.replicate 32 0)).toArray:=by kernel_rfl
 rw [ez]
 have T1:=aI ((HR.start ((held0 w [] (λ_ h=>by cases h)).add (keeps_sl A m) hs)).new (byteVals (List.replicate 32 0)).toArray 97 rfl)
 clear ez hs
 generalize w.alloc (.cells (byteVals (List.replicate 32 0)).toArray 97)=W1 at T1 ⊢
 generalize w.heap.size=N2 at T1 ⊢
 go_upto_region 2 with fail
 have T2:=aI (show HR w [] _ [(W1.heap.size,91,Sha.H0.v),(N2,97,(byteVals (List.replicate 32 0)).toArray)] [] [λM W=>SlAt M W A m] (W1.alloc (.cells Sha.H0.v 91)) from T1.out.new Sha.H0.v 91 rfl)
 have eH:(#[Value.int IntKind.u32 1779033703,Value.int IntKind.u32 3144134277,Value.int IntKind.u32 1013904242,Value.int IntKind.u32 2773480762,Value.int IntKind.u32 1359893119,Value.int IntKind.u32 2600822924,Value.int IntKind.u32 528734635,Value.int IntKind.u32 1541459225]:Array Value)=Sha.H0.v:=rfl
 rw [eH]
 clear T1 eH
 generalize W1.alloc (.cells Sha.H0.v 91)=W2 at T2 ⊢
 generalize W1.heap.size=N3 at T2 ⊢
 go_upto_region 3 with (go_at_call 160;refine (CP.out _ ((T2.out.fact (.head _)).sub (λg hg=>by cases hg))).mono ?_;rintro e w4 ⟨v4,rfl,hown,hb4⟩;obtain ⟨M4,h4,-⟩:=T2.out.take hb4 hown;have T:=aI (h4.less (L':=[]) (λ_ h=>by cases h));clear h4 hown hb4)
 obtain ⟨A4,c4,rfl⟩:=T.out.form (.head _)
 clear T2
 go_wp2_with fail
 go_loopg [5] np (λr u wr=>∃(k:Nat) (S:Sha.St) (M:List Nat),64*k+r=np/\u=.int .i64 (64*k:Nat)/\S=Sha.blocks Sha.H0 (P.take (64*k))/\HR w [] M [(N3,91,S.v),(N2,97,(byteVals (List.replicate 32 0)).toArray)] [⟨5,1,.slice A4 np c4,np,byteVals P⟩] [] wr)
 case atStart=>exact ⟨0,Sha.H0,_,by omega,rfl,by rw [Nat.mul_zero,List.take_zero,Sha.blocks_lt _ (by decide)],T.out⟩
 case round =>
  clear T
  obtain ⟨k,S,M,hk9,rfl,hS,hT⟩:=hrel
  obtain ⟨sa,sb,sc,sd,se,sf,sg,sh⟩:=S
  obtain ⟨wo,rfl⟩:=aY wr
  obtain ⟨gk9,rfl⟩:=aY gk
  have T:=aI hT
  have HS:=aI hS
  clear hT hS
  by_cases hlt:64*k < np
  .have hfit:64*k+64<=np:=by have:=HMOD.out;omega
   obtain ⟨g4,rfl⟩:=T.out.rform (.head _) (by omega)
   have hcap:np<=c4/\c4<=9223372036854775807:=by
    rcases (T.out.own _ (.head _)).2 with ⟨h,_⟩ | ⟨g,cap,cur,h,_,_,h1,h2,_⟩
    .cases h
    .injection h with _ _ h;subst h
     exact ⟨h1,h2⟩
   obtain ⟨at_,hat⟩:=aX (64*k)
   rw [hat] at hfit hlt hk9 HS ⊢
   have a0:(0:Int)<=(at_:Int):=aa _
   have a1:(at_:Int)<=(at_:Int)+64:=by omega
   have a2:(at_:Int)+64<=(c4:Int):=by omega
   have a3:(at_:Int) < (np:Int):=by omega
   have w64:IntKind.i64.wrap ((at_:Int)+64)=(at_:Int)+64:=wrapI (by unfold inI;omega)
   obtain ⟨B,hB⟩:=aX ((P.drop at_).take 64)
   have hBl:B.length=64:=by rw [<-hB];exact blk_len (by rw [HNP.out];exact hfit)
   have hsl:=aI (λ(W:World) (h:HR w [] M [(N3,91,(⟨sa,sb,sc,sd,se,sf,sg,sh⟩:Sha.St).v),(N2,97,(byteVals (List.replicate 32 0)).toArray)] [⟨5,1,.slice (some ⟨g4,0,none⟩) np c4,np,byteVals P⟩] [] W)=>show SlAt [] W (some ⟨g4,at_,none⟩) B by rw [<-hB];exact blk_sl h (.head _) HNP.out.symm hfit)
   have HB:=aI hB
   have HAT:=aI hat
   have CW:=aI (λ(W:World) (c:Nat) (h:SlAt [] W (some ⟨g4,at_,none⟩) B) h1 h2=>words_any B (some ⟨g4,at_,none⟩) c W h hBl h1 h2)
   clear hB hat
   go_upto_region 6 with fail
   have hsz:(Tryz.prog.info? 178).map (·.size)=some (wv (Sha.sch B 64)).toArray.size:=by rw [zS,wv_length,Sha.sch_length];kernel_rfl
   have hzz:(padW []).size=(wv (Sha.sch B 64)).toArray.size:=(padW_size (l:=[]) (by decide)).trans (by rw [zS,wv_length,Sha.sch_length])
   have hx1:=wv_one (Sha.sch B 64)
   have hXl:=Sha.sch_length B 64
   obtain ⟨X,hX⟩:=aX (Sha.sch B 64)
   rw [hX] at hsz hzz hx1 CW hXl
   have HX:=aI hX
   clear hX
   have e64:at_+64 - at_=64:=by omega
   have hc1:64<=c4 - at_:=by omega
   have hc2:c4 - at_<=9223372036854775807:=by omega
   have ez:(#[.int .u32 0,.int .u32 0,.int .u32 0,.int .u32 0,.int .u32 0,.int .u32 0,.int .u32 0,.int .u32 0,.int .u32 0,.int .u32 0,.int .u32 0,.int .u32 0,.int .u32 0,.int .u32 0,.int .u32 0,.int .u32 0,.int .u32 0,.int .u32 0,.int .u32 0,.int .u32 0,.int .u32 0,.int .u32 0,.int .u32 0,.int .u32 0,.int .u32 0,.int .u32 0,.int .u32 0,.int .u32 0,.int .u32 0,.int .u32 0,.int .u32 0,.int .u32 0,.int .u32 0,.int .u32 0,.int .u32 0,.int .u32 0,.int .u32 0,.int .u32 0,.int .u32 0,.int .u32 0,.int .u32 0,.int .u32 0,.int .u32 0,.int .u32 0,.int .u32 0,.int .u32 0,.int .u32 0,.int .u32 0,.int .u32 0,.int .u32 0,.int .u32 0,.int .u32 0,.int .u32 0,.int .u32 0,.int .u32 0,.int .u32 0,.int .u32 0,.int .u32 0,.int .u32 0,.int .u32 0,.int .u32 0,.int .u32 0,.int .u32 0,.int .u32 0]:Array Value)=padW []:=by kernel_rfl
   go_upto_region 7 with (first | (go_at_call 161;first | rw [e64] | skip;refine (CW.out _ _ (hsl.out _ T.out) hc1 hc2).mono ?_;rintro e w1 ⟨rfl,hb1⟩;replace T:=aI (T.out.below hb1);clear hb1) | (refine wpList_store_last rfl 178 (.tmp 6) (.tmp 34) rfl (wv X).toArray rfl rfl hzz hsz hx1 ?_;(try simp only [zn])))
   replace T:=aI (T.out.new (wv X).toArray 178 rfl)
   generalize w1.alloc (.cells (wv X).toArray 178)=w6 at T ⊢
   generalize w1.heap.size=N6 at T ⊢
   clear ez e64 hc1 hc2 hsz hzz hx1 CW hsl a1 a2
   have q:=T.out.box (.tail _ (.head _));obtain ⟨v0,v1,v2,v3,v4,v5,v6,v7⟩:=aN8 q.cell;simp at v0 v1 v2 v3 v4 v5 v6 v7;clear q
   go_quiet (fail)
   replace T:=aI (T.out.drewN nq)
   generalize w6.drewN nq=w7 at T ⊢
   clear v0 v1 v2 v3 v4 v5 v6 v7
   go_wp2_with fail
   obtain ⟨KX,hKX⟩:=aX Sha.KK
   have HKX:=aI hKX
   have HKC:=aI (λ(W:World) (h:Below w.heap.size w W) (t:Nat) (ht:t < 64)=>show W.cell? ⟨2,t,none⟩=some (.int .u32 (Sha.g KX t)) by rw [<-hKX];exact (HK.out W h).at_ ht)
   clear hKX
   go_loopg [7,8,9,10,11,12,13,14,15] 64 (λr x7 x8 x9 x10 x11 x12 x13 x14 x15 wr=>∃(t:Nat) (V:Sha.St),t+r=64/\(x7=.int .u32 V.a/\x8=.int .u32 V.b/\x9=.int .u32 V.c/\x10=.int .u32 V.d/\x11=.int .u32 V.e/\x12=.int .u32 V.f/\x13=.int .u32 V.g/\x14=.int .u32 V.h)/\x15=.int .i64 t/\V=Sha.rnds KX X ⟨sa,sb,sc,sd,se,sf,sg,sh⟩ t/\HR w [] (N6::M) [(N6,178,(wv X).toArray),(N3,91,(⟨sa,sb,sc,sd,se,sf,sg,sh⟩:Sha.St).v),(N2,97,(byteVals (List.replicate 32 0)).toArray)] [⟨5,1,.slice (some ⟨g4,0,none⟩) np c4,np,byteVals P⟩] [] wr)
   case atStart=>exact ⟨0,⟨sa,sb,sc,sd,se,sf,sg,sh⟩,by omega,⟨rfl,rfl,rfl,rfl,rfl,rfl,rfl,rfl⟩,rfl,rfl,T.out⟩
   case round =>
    clear T
    obtain ⟨t,V,ht,⟨rfl,rfl,rfl,rfl,rfl,rfl,rfl,rfl⟩,rfl,hV,hT⟩:=hrel
    obtain ⟨va,vb,vc,vd,ve,vf,vg,vh⟩:=V
    dsimp only
    obtain ⟨wi,rfl⟩:=aY wr
    have T:=aI hT
    have HV:=aI hV
    clear hT hV
    by_cases hlt:t < 64
    .have t0:(0:Int)<=(t:Int):=aa _
     have t1:(t:Int) < 64:=by omega
     have x0:wi.cell? ⟨N6,t,none⟩=some (.int .u32 (Sha.g X t)):=((T.out.box (.head _)).cell t).trans (by rw [aE];exact wv_get (by omega))
     have k0:=HKC.out wi T.out.h.bl t hlt
     obtain ⟨kt,hkt⟩:=aX (Sha.g KX t)
     obtain ⟨xt,hxt⟩:=aX (Sha.g X t)
     rw [hkt] at k0
     rw [hxt] at x0
     have HKT:=aI hkt
     have HXT:=aI hxt
     clear hkt hxt
     have C6:=aI (λ(W:World) n=>Calls.quiet_of (n:=n) (w:=W) (rotr_any ve 6 6 (by omega) (by omega) rfl (W.drewN n)))
     have C11:=aI (λ(W:World) n=>Calls.quiet_of (n:=n) (w:=W) (rotr_any ve 11 11 (by omega) (by omega) rfl (W.drewN n)))
     have C25:=aI (λ(W:World) n=>Calls.quiet_of (n:=n) (w:=W) (rotr_any ve 25 25 (by omega) (by omega) rfl (W.drewN n)))
     have C2:=aI (λ(W:World)=>rotr_any va 2 2 (by omega) (by omega) rfl W)
     have C13:=aI (λ(W:World)=>rotr_any va 13 13 (by omega) (by omega) rfl W)
     have C22:=aI (λ(W:World)=>rotr_any va 22 22 (by omega) (by omega) rfl W)
     go_wp2_with fail
     go_quiet ((go_at_call 162;first | with_reducible exact C6.out _ _ | with_reducible exact C11.out _ _ | with_reducible exact C25.out _ _))
     replace T:=aI (T.out.drewN nq)
     generalize wi.drewN nq=wp at T ⊢
     clear x0 k0 C6 C11 C25
     have hmx:bits .xor .u32 (bits .xor .u32 (Sha.rot ve 6) (Sha.rot ve 11)) (Sha.rot ve 25)=Sha.mix ve 6 11 25:=rfl
     have hch:bits .xor .u32 (bits .and .u32 ve vf) (bits .and .u32 (bits .xor .u32 ve 4294967295) vg)=Sha.ch ve vf vg:=rfl
     rw [hmx,hch,Sha.ad5]
     clear hmx hch
     obtain ⟨x,hx⟩:=aX (Sha.ad (Sha.ad (Sha.ad (Sha.ad vh (Sha.mix ve 6 11 25)) (Sha.ch ve vf vg)) kt) xt)
     rw [hx]
     have HXX:=aI hx
     clear hx
     go_upto_region 13 with (first | (go_at_call 162;(with_reducible refine (C2.out _).mono ?_);rintro e w2 ⟨rfl,hm2⟩;replace T:=aI (T.out.drewE hm2);clear hm2) | (go_at_call 162;(with_reducible refine (C13.out _).mono ?_);rintro e w2 ⟨rfl,hm2⟩;replace T:=aI (T.out.drewE hm2);clear hm2) | (go_at_call 162;(with_reducible refine (C22.out _).mono ?_);rintro e w2 ⟨rfl,hm2⟩;replace T:=aI (T.out.drewE hm2);clear hm2))
     clear C2 C13 C22
     have hmx:bits .xor .u32 (bits .xor .u32 (Sha.rot va 2) (Sha.rot va 13)) (Sha.rot va 22)=Sha.mix va 2 13 22:=rfl
     have hmj:bits .xor .u32 (bits .xor .u32 (bits .and .u32 va vb) (bits .and .u32 va vc)) (bits .and .u32 vb vc)=Sha.mj va vb vc:=rfl
     rw [hmx,hmj,<-Sha.ad_is (Sha.mix va 2 13 22) (Sha.mj va vb vc)]
     clear hmx hmj
     obtain ⟨y,hy⟩:=aX (Sha.ad (Sha.mix va 2 13 22) (Sha.mj va vb vc))
     rw [hy]
     have HYY:=aI hy
     clear hy
     go_wp2_with fail
     have HRN:=aI (show (⟨Sha.ad x y,va,vb,vc,Sha.ad vd x,ve,vf,vg⟩:Sha.St)=Sha.rnds KX X ⟨sa,sb,sc,sd,se,sf,sg,sh⟩ (t+1) by
      rw [Sha.rnds,<-HV.out]
      show _=Sha.rnd (Sha.g KX t) (Sha.g X t) ⟨va,vb,vc,vd,ve,vf,vg,vh⟩
      rw [HKT.out,HXT.out]
      show _=(⟨Sha.ad (Sha.ad (Sha.ad (Sha.ad (Sha.ad vh (Sha.mix ve 6 11 25)) (Sha.ch ve vf vg)) kt) xt) (Sha.ad (Sha.mix va 2 13 22) (Sha.mj va vb vc)),va,vb,vc,Sha.ad vd (Sha.ad (Sha.ad (Sha.ad (Sha.ad vh (Sha.mix ve 6 11 25)) (Sha.ch ve vf vg)) kt) xt),ve,vf,vg⟩:Sha.St)
      rw [HXX.out,HYY.out])
     try rw [<-Sha.ad_is x y]
     try rw [<-Sha.ad_is vd x]
     go_roundg (gk - 1)
     case measure=>omega
     case rel=>exact ⟨t+1,_,by omega,⟨rfl,rfl,rfl,rfl,rfl,rfl,rfl,rfl⟩,by go_num,HRN.out,T.out⟩
    .obtain rfl:t=64:=by omega
     have HCM:=aI (show Sha.plus ⟨sa,sb,sc,sd,se,sf,sg,sh⟩ ⟨va,vb,vc,vd,ve,vf,vg,vh⟩=Sha.blocks Sha.H0 (P.take (64*(k+1))) by
      rw [Sha.take_step P k (by rw [HNP.out,HAT.out];exact hfit),HAT.out,<-HS.out,HB.out]
      unfold Sha.comp
      rw [HX.out,HKX.out,<-HV.out])
     have q:=T.out.box (.tail _ (.head _));obtain ⟨v0,v1,v2,v3,v4,v5,v6,v7⟩:=aN8 q.cell;simp at v0 v1 v2 v3 v4 v5 v6 v7;clear q
     have h8:(Tryz.prog.info? 91).map (·.size)=some 8:=by kernel_rfl
     go_upto_region 21 with fail
     refine wp_region_lit ?_
     have h8':(Tryz.prog.info? 91).map (·.size)=some (#[.int .u32 ((sa+va) % 4294967296),.int .u32 ((sb+vb) % 4294967296),.int .u32 ((sc+vc) % 4294967296),.int .u32 ((sd+vd) % 4294967296),.int .u32 ((se+ve) % 4294967296),.int .u32 ((sf+vf) % 4294967296),.int .u32 ((sg+vg) % 4294967296),.int .u32 ((sh+vh) % 4294967296)]:Array Value).size:=h8
     have H81:=aI (show (#[.int .u32 ((sa+va) % 4294967296),.int .u32 ((sb+vb) % 4294967296),.int .u32 ((sc+vc) % 4294967296),.int .u32 ((sd+vd) % 4294967296),.int .u32 ((se+ve) % 4294967296),.int .u32 ((sf+vf) % 4294967296),.int .u32 ((sg+vg) % 4294967296),.int .u32 ((sh+vh) % 4294967296)]:Array Value).all (·.oneCell')=true by simp [Value.oneCell'])
     have HBX:=aI (T.out.box (.tail _ (.head _)))
     go_wp2_with (with_reducible refine wpList_store_form N3 #[.int .u32 ((sa+va) % 4294967296),.int .u32 ((sb+vb) % 4294967296),.int .u32 ((sc+vc) % 4294967296),.int .u32 ((sd+vd) % 4294967296),.int .u32 ((se+ve) % 4294967296),.int .u32 ((sf+vf) % 4294967296),.int .u32 ((sg+vg) % 4294967296),.int .u32 ((sh+vh) % 4294967296)] 91 _ HBX.out h8' rfl H81.out ?_ ?_ ?_)
     have T8:=T.out.bswap.setAll #[.int .u32 ((sa+va) % 4294967296),.int .u32 ((sb+vb) % 4294967296),.int .u32 ((sc+vc) % 4294967296),.int .u32 ((sd+vd) % 4294967296),.int .u32 ((se+ve) % 4294967296),.int .u32 ((sf+vf) % 4294967296),.int .u32 ((sg+vg) % 4294967296),.int .u32 ((sh+vh) % 4294967296)]
     generalize wi.setRow N3 #[.int .u32 ((sa+va) % 4294967296),.int .u32 ((sb+vb) % 4294967296),.int .u32 ((sc+vc) % 4294967296),.int .u32 ((sd+vd) % 4294967296),.int .u32 ((se+ve) % 4294967296),.int .u32 ((sf+vf) % 4294967296),.int .u32 ((sg+vg) % 4294967296),.int .u32 ((sh+vh) % 4294967296)]=w8 at T8 ⊢
     clear HBX h8 h8' v0 v1 v2 v3 v4 v5 v6 v7 T
     have T9:=aI T8.bswap.unbox
     clear T8
     have T9:=T9.out
     simp only [<-Sha.ad_is] at T9
     go_roundg (gk9 - 64)
     case measure=>omega
     case rel=>exact ⟨k+1,Sha.plus ⟨sa,sb,sc,sd,se,sf,sg,sh⟩ ⟨va,vb,vc,vd,ve,vf,vg,vh⟩,N6::M,by have:=HAT.out;omega,by rw [show ((64*(k+1):Nat):Int)=(at_:Int)+64 by have:=HAT.out;omega],HCM.out,T9⟩
  .obtain rfl:gk9=0:=by omega
   have HPE:=aI (show (⟨sa,sb,sc,sd,se,sf,sg,sh⟩:Sha.St)=S9 by rw [HS.out,show 64*k=P.length by have:=HNP.out;omega,List.take_length,HSUM.out])
   have T2:=aI (show HR w [] M [(N3,91,S9.v),(N2,97,(byteVals (List.replicate 32 0)).toArray)] [⟨5,1,.slice A4 np c4,np,byteVals P⟩] [] wo by rw [<-HPE.out];exact T.out)
   clear T HS HPE
   have ez:(#[.int .u8 0,.int .u8 0,.int .u8 0,.int .u8 0,.int .u8 0,.int .u8 0,.int .u8 0,.int .u8 0,.int .u8 0,.int .u8 0,.int .u8 0,.int .u8 0,.int .u8 0,.int .u8 0,.int .u8 0,.int .u8 0,.int .u8 0,.int .u8 0,.int .u8 0,.int .u8 0,.int .u8 0,.int .u8 0,.int .u8 0,.int .u8 0,.int .u8 0,.int .u8 0,.int .u8 0,.int .u8 0,.int .u8 0,.int .u8 0,.int .u8 0,.int .u8 0]:Array Value)=(byteVals (outZ S9 0)).toArray:=by kernel_rfl
   go_upto_region 23 with fail
   have T6:=aI (T2.out.bswap.new (byteVals (outZ S9 0)).toArray 97 rfl)
   clear ez T2
   generalize wo.alloc (.cells (byteVals (outZ S9 0)).toArray 97)=w11 at T6 ⊢
   generalize wo.heap.size=N6 at T6 ⊢
   go_wp2_with fail
   go_loopg [19] 32 (λr u wr=>∃(i:Nat) (M:List Nat),i+r=32/\u=.int .i64 i/\HR w [] M [(N6,97,(byteVals (outZ S9 i)).toArray),(N2,97,(byteVals (List.replicate 32 0)).toArray),(N3,91,S9.v)] [⟨5,1,.slice A4 np c4,np,byteVals P⟩] [] wr)
   case atStart=>exact ⟨0,_,by omega,rfl,T6.out⟩
   case round =>
    clear T6
    obtain ⟨i,M6,hi32,rfl,hT⟩:=hrel
    obtain ⟨wi,rfl⟩:=aY wr
    have T:=aI hT
    clear hT
    by_cases hlt:i < 32
    .have i0_:(0:Int)<=(i:Int):=aa _
     have i1:(i:Int) < 32:=by omega
     obtain ⟨d,hd⟩:=aX (i / 4)
     obtain ⟨r,hr⟩:=aX (i % 4)
     obtain ⟨a,ha⟩:=aX (24 - 8*r)
     have d1:(d:Int) < 8:=by omega
     have d0:(0:Int)<=(d:Int):=by omega
     have sc:=((T.out.box (.tail _ (.tail _ (.head _)))).cell d).trans (v_g (by omega))
     have z:=((T.out.box (.head _)).cell i).trans (outZ_get S9 i hlt)
     have f:=(T.out.box (.head _)).frozen i
     go_wp2_with fail
     have eB:(Sha.g S9.l d / 2 ^ a % 256:Int)=((Sha.outB S9 i).toNat:Int):=by
      unfold Sha.outB
      rw [hd,hr,ha]
      obtain ⟨z_,hz_⟩:=aX (Sha.g S9.l d / 2 ^ a)
      rw [hz_]
      have h0:=Int.emod_nonneg z_ (show (256:Int)≠0 by decide)
      have h1:=Int.emod_lt_of_pos z_ (show (0:Int) < 256 by decide)
      rw [UInt8.toNat_ofNat']
      omega
     rw [eB]
     have T7:=T.out.set0 i (.int .u8 (Sha.outB S9 i).toNat)
     rw [outZ_set S9 i hlt] at T7
     go_roundg (gk - 1)
     case measure=>omega
     case rel=>exact ⟨i+1,M6,by omega,by go_num,T7⟩
    .obtain rfl:i=32:=by omega
     have e32:(byteVals (outZ S9 32)).toArray=(byteVals (Sha.out S9 32)).toArray:=by unfold outZ;simp
     rw [e32] at T
     clear e32
     have h32:(Tryz.prog.info? 97).map (·.size)=some (byteVals (Sha.out S9 32)).toArray.size:=by rw [out32_size];kernel_rfl
     have h1:(byteVals (Sha.out S9 32)).toArray.all (·.oneCell')=true:=out32_one S9
     have hz3:(byteVals (List.replicate 32 0)).toArray.size=(byteVals (Sha.out S9 32)).toArray.size:=by rw [out32_size];simp [byteVals_length]
     obtain ⟨O,hO⟩:=aX ((byteVals (Sha.out S9 32)).toArray)
     obtain ⟨Z,hZ⟩:=aX ((byteVals (List.replicate 32 0)).toArray)
     have HO:=aI hO
     rw [hO] at T h32 h1 hz3
     rw [hZ] at T hz3
     clear hO hZ
     go_upto_region 27 with fail
     refine wp_region_lit ?_
     refine wpList_load_row rfl 97 (.tmp 18) rfl N6 rfl 97 O (0,0) _ (T.out.box (.head _)) Tryz.underlying97 rfl h32 ?_;(try simp only [zn])
     refine wpList_store_row rfl 97 (.tmp 2) (.tmp 163) rfl N2 O rfl rfl 97 _ (T.out.box (.tail _ (.head _))) h32 hz3 h1 ?_
     have T5:=aI (T.out.bswap.setAll O)
     generalize wi.setRow N2 O=W9 at T5 ⊢
     go_wp2_with fail
     exact zi (v:=.agg O) (results_cell_row Tryz.results137 _ _ _ _ _ _ _ rfl (T5.out.box (.head _)) Tryz.underlying97 rfl h32) rfl ⟨by rw [HS9.out,HO.out],T5.out.h.bl⟩
def outY (S:Sha.St) (i:Nat):List UInt8:=Sha.out S i++List.replicate (16 - i) 0
theorem outY_set (S:Sha.St) (i:Nat) (h:i < 16):(byteVals (outY S i)).toArray.setIfInBounds i (.int .u8 (Sha.outB S i).toNat)=(byteVals (outY S (i+1))).toArray:=by
 unfold outY
 rw [show 16 - i=(16 - (i+1))+1 by omega,List.replicate_succ,<-Sha.out_snoc,byteVals_append,byteVals_append,byteVals_cons,byteVals_append,zo,aB,List.set_append_right _ _ (by rw [byteVals_length,Sha.out_length];exact ag _),byteVals_length,Sha.out_length,Nat.sub_self]
 rfl
theorem outY_get (S:Sha.St) (i:Nat) (h:i < 16):(byteVals (outY S i)).toArray[i]?=some (.int .u8 0):=by
 unfold outY
 rw [show 16 - i=(16 - (i+1))+1 by omega,List.replicate_succ,byteVals_append,byteVals_cons,aE,zL (by rw [byteVals_length,Sha.out_length];exact ag _),byteVals_length,Sha.out_length,Nat.sub_self]
 rfl
theorem out32_get (S:Sha.St) (i:Nat) (h:i < 32):(byteVals (Sha.out S 32)).toArray[i]?=some (.int .u8 (Sha.outB S i).toNat):=by
 unfold byteVals Sha.out
 rw [aE,List.getElem?_map,List.getElem?_map,List.getElem?_range h];rfl
theorem rShort_any (m:List UInt8) (A:Option Addr) (c:Nat) (w:World) (hs:SlAt [] w A m) (hl:m.length<=10000000) (hk:RKEnv w):Calls Tryz.prog 98 #[.slice A m.length c] w λe w'=>e=.returned (.agg (byteVals (Sha.out (Sha.sum m) 16)).toArray)/\Below w.heap.size w w':=by
 have HK:=aI (λ(W:World) (h:Below w.heap.size w W)=>hk.to h)
 have CS:=λ(W:World) (h:SlAt [] W A m) (h2:RKEnv W)=>rSum_any m A c W h hl h2
 obtain ⟨S,hS⟩:=aX (Sha.sum m)
 have h32:(Tryz.prog.info? 97).map (·.size)=some (byteVals (Sha.out S 32)).toArray.size:=by rw [out32_size];kernel_rfl
 have h1:(byteVals (Sha.out S 32)).toArray.all (·.oneCell')=true:=out32_one S
 have hz3:(#[.int .u8 0,.int .u8 0,.int .u8 0,.int .u8 0,.int .u8 0,.int .u8 0,.int .u8 0,.int .u8 0,.int .u8 0,.int .u8 0,.int .u8 0,.int .u8 0,.int .u8 0,.int .u8 0,.int .u8 0,.int .u8 0,.int .u8 0,.int .u8 0,.int .u8 0,.int .u8 0,.int .u8 0,.int .u8 0,.int .u8 0,.int .u8 0,.int .u8 0,.int .u8 0,.int .u8 0,.int .u8 0,.int .u8 0,.int .u8 0,.int .u8 0,.int .u8 0]:Array Value).size=(byteVals (Sha.out S 32)).toArray.size:=by rw [out32_size];rfl
 have HOG:=aI (out32_get S)
 obtain ⟨O,hO⟩:=aX ((byteVals (Sha.out S 32)).toArray)
 rw [hS,hO] at CS
 rw [hO] at h32 h1 hz3 HOG
 replace CS:=aI CS
 have HSS:=aI hS
 obtain ⟨n,hn⟩:=aX m.length
 rw [hn] at CS ⊢
 clear hS hO hl hn
 go_enter Tryz.func98,Tryz.ntmps98
 go_upto_region 1 with fail
 have ez:(#[.int .u8 0,.int .u8 0,.int .u8 0,.int .u8 0,.int .u8 0,.int .u8 0,.int .u8 0,.int .u8 0,.int .u8 0,.int .u8 0,.int .u8 0,.int .u8 0,.int .u8 0,.int .u8 0,.int .u8 0,.int .u8 0]:Array Value)=(byteVals (List.replicate 16 0)).toArray:=by kernel_rfl
 rw [ez]
 have T:=aI ((HR.start ((held0 w [] (λ_ h=>by cases h)).add (keeps_sl A m) hs)).new (byteVals (List.replicate 16 0)).toArray 38 rfl)
 generalize w.alloc (.cells (byteVals (List.replicate 16 0)).toArray 38)=W1 at T ⊢
 generalize w.heap.size=N2 at T ⊢
 have hke:=HK.out W1 T.out.h.bl
 go_upto_region 2 with (first | (go_at_call 137;refine (CS.out _ ((T.out.fact (.head _)).sub (λg hg=>by cases hg)) hke).mono ?_;rintro e w9 ⟨rfl,hb9⟩;replace T:=aI (T.out.below hb9);clear hb9) | (refine wpList_store_last rfl 97 (.tmp 3) (.tmp 7) rfl O rfl rfl hz3 h32 h1 ?_;(try simp only [zn])))
 replace T:=aI (T.out.new O 97 rfl)
 generalize w9.alloc (.cells O 97)=W3 at T ⊢
 generalize w9.heap.size=N3 at T ⊢
 clear hke hz3 h32 h1 ez
 have h16:(Tryz.prog.info? 38).map (·.size)=some (#[Value.int IntKind.u8 0,Value.int IntKind.u8 0,Value.int IntKind.u8 0,Value.int IntKind.u8 0,Value.int IntKind.u8 0,Value.int IntKind.u8 0,Value.int IntKind.u8 0,Value.int IntKind.u8 0,Value.int IntKind.u8 0,Value.int IntKind.u8 0,Value.int IntKind.u8 0,Value.int IntKind.u8 0,Value.int IntKind.u8 0,Value.int IntKind.u8 0,Value.int IntKind.u8 0,Value.int IntKind.u8 0]:Array Value).size:=by kernel_rfl
 have h116:(#[Value.int IntKind.u8 0,Value.int IntKind.u8 0,Value.int IntKind.u8 0,Value.int IntKind.u8 0,Value.int IntKind.u8 0,Value.int IntKind.u8 0,Value.int IntKind.u8 0,Value.int IntKind.u8 0,Value.int IntKind.u8 0,Value.int IntKind.u8 0,Value.int IntKind.u8 0,Value.int IntKind.u8 0,Value.int IntKind.u8 0,Value.int IntKind.u8 0,Value.int IntKind.u8 0,Value.int IntKind.u8 0]:Array Value).all (·.oneCell')=true:=by kernel_rfl
 go_upto_region 3 with (refine wpList_store_last rfl 38 (.tmp 4) (.tmp 8) rfl (#[.int .u8 0,.int .u8 0,.int .u8 0,.int .u8 0,.int .u8 0,.int .u8 0,.int .u8 0,.int .u8 0,.int .u8 0,.int .u8 0,.int .u8 0,.int .u8 0,.int .u8 0,.int .u8 0,.int .u8 0,.int .u8 0]:Array Value) rfl rfl rfl h16 h116 ?_;(try simp only [zn]))
 have ey:(#[.int .u8 0,.int .u8 0,.int .u8 0,.int .u8 0,.int .u8 0,.int .u8 0,.int .u8 0,.int .u8 0,.int .u8 0,.int .u8 0,.int .u8 0,.int .u8 0,.int .u8 0,.int .u8 0,.int .u8 0,.int .u8 0]:Array Value)=(byteVals (outY S 0)).toArray:=by kernel_rfl
 rw [ey]
 replace T:=aI (T.out.new (byteVals (outY S 0)).toArray 38 rfl)
 generalize W3.alloc (.cells (byteVals (outY S 0)).toArray 38)=W4 at T ⊢
 generalize W3.heap.size=N4 at T ⊢
 clear ey h16 h116
 go_wp2_with fail
 go_loopg [5] 16 (λr u wr=>∃(i:Nat) (M:List Nat),i+r=16/\u=.int .i64 i/\HR w [] M [(N4,38,(byteVals (outY S i)).toArray),(N3,97,O),(N2,38,(byteVals (List.replicate 16 0)).toArray)] [] [λM W=>SlAt M W A m] wr)
 case atStart=>exact ⟨0,_,by omega,rfl,T.out⟩
 case round =>
  clear T
  obtain ⟨i,M6,hi16,rfl,hT⟩:=hrel
  obtain ⟨wi,rfl⟩:=aY wr
  have T:=aI hT
  clear hT
  by_cases hlt:i < 16
  .have i0_:(0:Int)<=(i:Int):=aa _
   have i1:(i:Int) < 16:=by omega
   have i2:(i:Int) < 32:=by omega
   have sc:=((T.out.box (.tail _ (.head _))).cell i).trans (HOG.out i (by omega))
   have z:=((T.out.box (.head _)).cell i).trans (outY_get S i hlt)
   have f:=(T.out.box (.head _)).frozen i
   go_wp2_with fail
   have T7:=T.out.set0 i (.int .u8 (Sha.outB S i).toNat)
   rw [outY_set S i hlt] at T7
   go_roundg (gk - 1)
   case measure=>omega
   case rel=>exact ⟨i+1,M6,by omega,by go_num,T7⟩
  .obtain rfl:i=16:=by omega
   have e16:(byteVals (outY S 16)).toArray=(byteVals (Sha.out S 16)).toArray:=by unfold outY;simp
   rw [e16] at T
   clear e16
   have h16:(Tryz.prog.info? 38).map (·.size)=some (byteVals (Sha.out S 16)).toArray.size:=by rw [zS,byteVals_length,Sha.out_length];kernel_rfl
   have h116:(byteVals (Sha.out S 16)).toArray.all (·.oneCell')=true:=by
    rw [Array.all_eq_true_iff_forall_mem]
    exact λu hu=>byteVals_one _ u (List.mem_toArray.1 hu)
   have hz3:(byteVals (List.replicate 16 0)).toArray.size=(byteVals (Sha.out S 16)).toArray.size:=by simp [byteVals_length,Sha.out_length]
   obtain ⟨D,hD⟩:=aX ((byteVals (Sha.out S 16)).toArray)
   obtain ⟨Z,hZ⟩:=aX ((byteVals (List.replicate 16 0)).toArray)
   have HD:=aI hD
   rw [hD] at T h16 h116 hz3
   rw [hZ] at T hz3
   clear hD hZ
   go_upto_region 7 with fail
   refine wp_region_lit ?_
   refine wpList_load_row rfl 38 (.tmp 4) rfl N4 rfl 38 D (0,0) _ (T.out.box (.head _)) Tryz.underlying38 rfl h16 ?_;(try simp only [zn])
   refine wpList_store_row rfl 38 (.tmp 2) (.tmp 18) rfl N2 D rfl rfl 38 _ (T.out.box (.tail _ (.tail _ (.head _)))) h16 hz3 h116 ?_
   have T5:=aI (T.out.box3.setAll D)
   generalize wi.setRow N2 D=W9 at T5 ⊢
   go_wp2_with fail
   exact zi (v:=.agg D) (results_cell_row Tryz.results98 _ _ _ _ _ _ _ rfl (T5.out.box (.head _)) Tryz.underlying38 rfl h16) rfl ⟨by rw [HSS.out,HD.out],T5.out.h.bl⟩
theorem rInput_any (tag:Nat) (s:ByteArray) (A:Option Addr) (c:Nat) (w:World) (hsl:SlAt [] w A [s]) (hs:s.size<=1000000):Calls Tryz.prog 99 #[.int .i64 tag,.slice A 1 c] w (BytesP (acc1 (UInt8.ofNat tag) s 1) w):=by
 obtain ⟨i0,hi,hz0,hz1,hz2⟩:=zq infoU8
 obtain ⟨tb,htb⟩:=aX (UInt8.ofNat tag)
 have wt:IntKind.u8.wrap (tag:Int)=(tb.toNat:Int):=by
  rw [<-htb,UInt8.toNat_ofNat']
  simp only [IntKind.wrap,IntKind.signed,IntKind.bits];simp
 rw [htb]
 have T0:=aI (HR.start ((held0 w [] (λ_ h=>by cases h)).add (keeps_sl A [s]) hsl))
 have HL:=aI (show 1+(Sx.encB s).length=(acc1 tb s 1).length by show _=(Sx.encB s).length+1;omega)
 have HSN:=aI (show byteVals (acc1 tb s 0)++byteVals (Sx.encB s)=byteVals (acc1 tb s 1) by rw [<-byteVals_append];rfl)
 have hel:=Sx.encB_le hs
 have CX:=λ(W:World)=>rBytes_any s W hs
 unfold BytesP at CX
 obtain ⟨nb,hnb⟩:=aX ((Sx.encB s).length)
 rw [hnb] at CX hel HL
 replace CX:=aI CX
 clear htb hsl hnb
 go_enter Tryz.func99,Tryz.ntmps99
 go_upto_region 2 with fail
 obtain ⟨M3,h3,-⟩:=T0.out.take ((zf _ _).alloc (ag _) (.cells #[.int .u8 tb.toNat] 5)) (own_lit (w:=w) (base:=w.heap.size) (e:=5) (.int .u8 tb.toNat) (ag _))
 have T:=aI (show HR w [] M3 [] [⟨5,1,.slice (some ⟨w.heap.size,0,none⟩) 1 1,1,byteVals (acc1 tb s 0)⟩] [λM W=>SlAt M W A [s]] (w.alloc (.cells #[.int .u8 tb.toNat] 5)) from h3)
 clear h3 T0
 generalize w.alloc (.cells #[.int .u8 tb.toNat] 5)=W2 at T ⊢
 go_wp2_with fail
 go_loopg [5,6] 1 (λr u v wr=>∃(k q:Nat) (M:List Nat),k+r=1/\v=.int .i64 k/\q=(if k=0 then 1 else 1+nb)/\HR w [] M [] [⟨5,1,u,q,byteVals (acc1 tb s k)⟩] [λM W=>SlAt M W A [s]] wr)
 case atStart=>exact ⟨0,1,_,rfl,rfl,rfl,T.out⟩
 case round =>
  clear T
  obtain ⟨k,q,M,hk1,rfl,hq,hT⟩:=hrel
  obtain ⟨wo,rfl⟩:=aY wr
  have T:=aI hT
  clear hT
  obtain ⟨A4,c4,rfl⟩:=T.out.form (.head _)
  by_cases hlt:k < 1
  .obtain rfl:k=0:=by omega
   obtain rfl:q=1:=hq
   obtain ⟨b,o,rfl,_,c0,_⟩:=str_at (T.out.fact (.head _)) 0 Nat.zero_lt_one
   rw [zW] at c0
   have c0:wo.cell? ⟨b,o,none⟩=some (.string s):=c0
   go_wp2_with (first | (go_at_call 51;refine (CX.out _).mono ?_;rintro e w1 ⟨v,rfl,hown,hb⟩;obtain ⟨Ab,cb,rfl⟩:=zP hown;replace T:=aI (T.out.below hb);have HR_:=aI (reads_own hown);clear hown hb) | (at_builtin;refine wpList_append_rows (by rfl) _ _ 35 (by rfl) 5 i0 _ 1 1 Tryz.underlying35 hi hz0 hz1 hz2 rfl (by decide) T.out (by rfl) _ _ nb _ (byteVals (Sx.encB s)) (by rfl) HR_.out (byteVals_one _) (by unfold maxLen;omega) (by omega) ?_;intro v5 w5 M5 h5 _;rw [HSN.out] at h5;replace T:=aI h5;clear h5))
   go_roundg (gk - 1)
   case measure=>omega
   case rel=>exact ⟨1,1+nb,_,by omega,by go_num,rfl,T.out⟩
  .obtain rfl:k=1:=by omega
   obtain rfl:q=1+nb:=hq
   go_wp2_with fail
   go_ret
   refine ⟨_,rfl,?_,T.out.h.bl⟩
   have hown:=T.out.own _ (.head _)
   rw [<-HL.out]
   exact hown
theorem rOf_any (tag:Nat) (s:ByteArray) (A:Option Addr) (c:Nat) (w:World) (hsl:SlAt [] w A [s]) (hs:s.size<=1000000) (hk:RKEnv w):Calls Tryz.prog 54 #[.int .i64 tag,.slice A 1 c] w λe w'=>e=.returned (.agg (byteVals (Sha.one (UInt8.ofNat tag) s.data.toList)).toArray)/\Below w.heap.size w w':=by
 have HK:=aI (λ(W:World) (h:Below w.heap.size w W)=>hk.to h)
 have CI:=aI (λ(W:World) (h:SlAt [] W A [s])=>rInput_any tag s A c W h hs)
 obtain ⟨tb,htb⟩:=aX (UInt8.ofNat tag)
 rw [htb] at CI ⊢
 have hal:=acc1_le tb s hs
 have CS:=aI (λ(W:World) (B:Option Addr) (d:Nat) (h:SlAt [] W B (acc1 tb s 1)) (h2:RKEnv W)=>rShort_any (acc1 tb s 1) B d W h (by omega) h2)
 have HEND:=aI (show Sha.out (Sha.sum (acc1 tb s 1)) 16=Sha.one tb s.data.toList by rw [<-out_pre,acc1_one,out_pre];rfl)
 rw [HEND.out] at CS
 have h16:(Tryz.prog.info? 38).map (·.size)=some (byteVals (Sha.one tb s.data.toList)).toArray.size:=by rw [zS,byteVals_length,Sha.one_length];kernel_rfl
 have h116:(byteVals (Sha.one tb s.data.toList)).toArray.all (·.oneCell')=true:=by
  rw [Array.all_eq_true_iff_forall_mem]
  exact λu hu=>byteVals_one _ u (List.mem_toArray.1 hu)
 have hz3:(byteVals (List.replicate 16 0)).toArray.size=(byteVals (Sha.one tb s.data.toList)).toArray.size:=by simp [byteVals_length,Sha.one_length]
 obtain ⟨D,hD⟩:=aX ((byteVals (Sha.one tb s.data.toList)).toArray)
 rw [hD] at CS h16 h116 hz3 ⊢
 obtain ⟨m,hm⟩:=aX (acc1 tb s 1)
 rw [hm] at CS CI
 unfold BytesP at CI
 clear hD hm htb hal HEND
 go_enter Tryz.func54,Tryz.ntmps54
 go_upto_region 1 with fail
 have ez:(#[.int .u8 0,.int .u8 0,.int .u8 0,.int .u8 0,.int .u8 0,.int .u8 0,.int .u8 0,.int .u8 0,.int .u8 0,.int .u8 0,.int .u8 0,.int .u8 0,.int .u8 0,.int .u8 0,.int .u8 0,.int .u8 0]:Array Value)=(byteVals (List.replicate 16 0)).toArray:=by kernel_rfl
 rw [ez]
 have T:=aI ((HR.start ((held0 w [] (λ_ h=>by cases h)).add (keeps_sl A [s]) hsl)).new (byteVals (List.replicate 16 0)).toArray 38 rfl)
 clear ez hsl
 generalize w.alloc (.cells (byteVals (List.replicate 16 0)).toArray 38)=W1 at T ⊢
 generalize w.heap.size=N2 at T ⊢
 obtain ⟨Z,hZ⟩:=aX ((byteVals (List.replicate 16 0)).toArray)
 rw [hZ] at T hz3
 clear hZ
 refine wp_region_lit ?_
 go_wp2_with (first | (go_at_call 99;refine (CI.out _ ((T.out.fact (.head _)).sub (λg hg=>by cases hg))).mono ?_;rintro e w1 ⟨v,rfl,hown,hb⟩;obtain ⟨M1,h1,-⟩:=T.out.take hb hown;replace T:=aI h1;obtain ⟨A7,c7,rfl,-,-,hs7⟩:=h1.rowSl (.head _) (flat_bytes m);have HS7:=aI hs7;have HKE:=aI (HK.out w1 h1.h.bl);clear hown hb h1 hs7) | (go_at_call 98;refine (CS.out _ _ _ HS7.out HKE.out).mono ?_;rintro e w9 ⟨rfl,hb9⟩;replace T:=aI (T.out.below hb9);have HBX:=aI (T.out.box (.head _));clear hb9) | ((with_reducible refine wpList_store_form N2 D 38 Z HBX.out h16 hz3 h116 ?_ ?_ ?_);exact rfl;exact rfl;(try simp only [zn]);have T5:=aI (T.out.setAll D);generalize w9.setRow N2 D=W9 at T5 ⊢))
 exact zi (v:=.agg D) (results_cell_row Tryz.results54 _ _ _ _ _ _ _ rfl (T5.out.box (.head _)) Tryz.underlying38 rfl h16) rfl ⟨rfl,T5.out.h.bl⟩
theorem wpList_append_run {P:Program} {ops:Array Oper} {rest:List Oper} {o:Oper} {a:Act} {w:World} {Q:Exit->Act->World->Prop} (hgd:o.guard=none) (s x:Operand) (t u:TypeId)
  (ho:o.op=.call { callee:=.builtin .append,args:=#[s,x],argTypes:=#[t,u] }) {v vs vx:Value} {W':World} (hs:a.eval s=vs) (hx:a.eval x=vx) (hrun:(Builtin.append_ #[t,u] o.type #[vs,vx]).run P w=.ok v W')
  (h:wpList P ops Q rest (a.put o.dst v) W'):wpList P ops Q (o::rest) a w:=by
 refine wpList_plain hgd λK hK=>?_
 unfold Oper.wp execOp
 simp only [ho,resolve,invoke,builtin,Sem.run_bind,Sem.run_pure,Result.andThen_ok,List.map_toArray,List.map_cons,List.map_nil,hs,hx,hrun]
 exact hK _ _ h
theorem grow_any (n:Nat) (w:World) (hn:n<=100000000):Calls Tryz.prog 97 #[.slice none 0 0,.int .i64 n] w λe w'=>∃v,e=.returned v/\w'.ownsRow w.heap.size 5 1 v 0 []/\Below w.heap.size w w':=by
 obtain ⟨i0,hi,hz0,hz1,hz2⟩:=zq infoU8
 have n0:(0:Int)<=(n:Int):=aa _
 have n1:¬(n:Int) < 0:=by omega
 have wn:IntKind.i64.wrap (n:Int)=(n:Int):=wrapI (by unfold inI;omega)
 by_cases h0:n=0
 .subst h0
  go_enter Tryz.func97,Tryz.ntmps97
  go_wp2_with fail
  go_ret
  exact ⟨_,rfl,ownsRow_nil _ _ _ _ (ag _),zf _ _⟩
 .have n2:(n:Int) > 0:=by omega
  have hold:(Builtin.firstCells i0.size 0 (.slice none 0 0)).run Tryz.prog w.drew=.ok ([]:List Value).toArray w.drew:=run_firstCells_none w.drew i0.size 0 0 0
  have hrz:=Lib.run_append_grow_zeros (P:=Tryz.prog) w 35 3 35 5 i0 (.int .u8 0) .i64 .i64 Tryz.underlying35 Tryz.underlying3 hi hz0 none 0 0 [] hold n (by omega) (by rw [hz1];decide) (by omega) (by omega) (by rw [hz2];omega) (growslice_fits (by omega) (by rw [hz2];omega))
  obtain ⟨cp,hcp⟩:=aX (grownCap w (0+n) 0 5)
  have hge:0+n<=cp:=by rw [<-hcp];exact grownCap_ge w _ _ _
  have hle:cp<=maxLen:=by rw [<-hcp];exact grownCap_le_maxLen w (0+n) 0 5 (by unfold maxLen;omega)
  rw [hcp] at hrz
  obtain ⟨cs,hcs⟩:=aX (([]:List Value).toArray++Builtin.zeroCells (Value.int .u8 0).cells n++Builtin.zeroCells (Value.int .u8 0).cells (cp - (0+n)))
  have hsz:cs.size=cp:=by rw [<-hcs];simp [Builtin.zeroCells,Value.cells];omega
  rw [hcs] at hrz
  have HRZ:=aI hrz
  have hown:(w.drew.alloc (.cells cs 5)).ownsRow w.heap.size 5 1 (.slice (some ⟨w.heap.size,0,none⟩) 0 cp) 0 []:=⟨rfl,.inr ⟨w.heap.size,cp,cs,rfl,ag _,heap_alloc_new w.drew _,zN _,hle,by rw [hsz,zO],rfl⟩⟩
  have hb:Below w.heap.size w (w.drew.alloc (.cells cs 5)):=(show Below w.heap.size w w.drew from ⟨rfl,rfl,rfl,ag _,λ_ _=>rfl⟩).alloc (ag _) _
  have HOWN:=aI hown
  have HB:=aI hb
  have c0:(0:Int)<=(cp:Int):=aa _
  clear hold hrz hown hb hcs hcp hi hz0 hz1 hz2
  go_enter Tryz.func97,Tryz.ntmps97
  go_wp2_with (at_builtin;refine wpList_append_run (by rfl) _ _ 35 3 (by rfl) (by rfl) (by rfl) HRZ.out ?_)
  go_ret
  exact ⟨_,rfl,HOWN.out,HB.out⟩
theorem flat_take_le {ls:List (List UInt8)}:∀k,((ls.take k).flatten).length<=ls.flatten.length:=by
 intro k
 have h:ls.flatten=(ls.take k).flatten++(ls.drop k).flatten:=by rw [<-List.flatten_append,List.take_append_drop]
 rw [h,aK];omega
theorem flat_snoc {ls:List (List UInt8)} {k:Nat} (h:k < ls.length):(ls.take k).flatten++ls[k]=(ls.take (k+1)).flatten:=by
 rw [take_snoc' ls k h,List.flatten_append];simp
theorem concat_any (ls:List (List UInt8)) (A:Option Addr) (c:Nat) (w:World) (hl:SlAt [] w A ls) (hm:ls.length<=1000) (ht:ls.flatten.length<=100000000):Calls Tryz.prog 41 #[.slice A ls.length c] w (BytesP ls.flatten w):=by
 obtain ⟨i0,hi,hz0,hz1,hz2⟩:=zq infoU8
 have T0:=aI ((held0 w [] (λ_ h=>by cases h)).add (keeps_sl A ls) hl)
 have HALL:=aI (show (ls.take ls.length).flatten=ls.flatten by rw [List.take_length])
 obtain ⟨E,hE⟩:=aX ls.flatten
 rw [hE] at ht HALL ⊢
 have HLE:=aI (show ∀k,((ls.take k).flatten).length<=E.length by rw [<-hE];exact flat_take_le)
 obtain ⟨n,hn⟩:=aX ls.length
 rw [hn] at hm HALL ⊢
 have HN:=aI hn
 have HT:=aI ht
 clear hl hn hE
 go_enter Tryz.func41,Tryz.ntmps41
 go_wp2_with fail
 go_loopg [3,11] n (λr v i wr=>∃k:Nat,k+r=n/\i=.int .i64 k/\v=.int .i64 ((ls.take k).flatten).length/\wr=w)
 case atStart=>exact ⟨0,by omega,rfl,rfl,rfl⟩
 case round =>
  obtain ⟨k,hk,rfl,rfl,rfl⟩:=hrel
  have hle:=HLE.out k
  by_cases hlt:k < n
  .have hkl:k < ls.length:=by rw [HN.out];exact hlt
   have k0:(0:Int)<=(k:Int):=aa _
   have k1:(k:Int) < (n:Int):=by omega
   obtain ⟨b,o,B,d,rfl,_,c0,_,hd1,hd2⟩:=lst_at (T0.out.fact (.head _)) k hkl
   have hsn:=flat_snoc hkl
   have hle2:=HLE.out (k+1)
   obtain ⟨P1,hP1⟩:=aX ((ls.take k).flatten)
   obtain ⟨P2,hP2⟩:=aX ((ls.take (k+1)).flatten)
   have hadd:P1.length+(ls[k]).length=P2.length:=by rw [<-hP2,<-hsn,hP1,aK]
   rw [hP2] at hle2
   rw [hP1] at hle ⊢
   obtain ⟨q,hq⟩:=aX ((ls[k]).length)
   rw [hq] at c0 hd1 hadd
   obtain ⟨p1,hp1⟩:=aX P1.length
   obtain ⟨p2,hp2⟩:=aX P2.length
   rw [hp1] at hle hadd ⊢
   rw [hp2] at hle2 hadd
   have ht':=HT.out
   have ea:(p1:Int)+(q:Int)=(p2:Int):=by omega
   have wa:IntKind.i64.wrap (p2:Int)=(p2:Int):=wrapI (by unfold inI;omega)
   have np:¬(p2:Int) < 0:=by omega
   have HP2:=aI (show p2=((ls.take (k+1)).flatten).length by rw [hP2,hp2])
   clear hsn hP1 hP2 hq hp1 hp2
   go_wp2_with fail
   go_roundg (gk - 1)
   case measure=>omega
   case rel=>exact ⟨k+1,by omega,by go_num,by rw [<-HP2.out],rfl⟩
  .obtain rfl:k=n:=by omega
   rw [HALL.out]
   obtain ⟨wz,rfl⟩:=aY wr
   have CG:=aI (grow_any E.length wz HT.out)
   obtain ⟨nE,hnE⟩:=aX E.length
   rw [hnE] at CG ⊢
   have HNE:=aI hnE
   clear hle hnE
   go_upto_region 10 with (go_at_call 97;refine CG.out.mono ?_;rintro e w1 ⟨v,rfl,hown,hb⟩;obtain ⟨M1,h1,_⟩:=T0.out.take hb hown;have T:=aI h1;clear h1 hown hb)
   go_wp2_with fail
   go_loopg [6,27] k (λr v i w2=>∃(j q:Nat) (M:List Nat),j+r=k/\i=.int .i64 j/\q=((ls.take j).flatten).length/\HRow wz [] M [] [λM W=>SlAt M W A ls] 5 1 v q (byteVals (ls.take j).flatten) w2)
   case atStart=>exact ⟨0,0,_,by omega,rfl,rfl,T.out⟩
   case round =>
    clear T
    obtain ⟨j,q,M,hj,rfl,hq,hH⟩:=hrel
    obtain ⟨wo,rfl⟩:=aY wr
    have T:=aI hH
    clear hH
    have hle:=HLE.out j
    rw [<-hq] at hle
    have HQ:=aI hq
    clear hq
    by_cases hlt:j < k
    .have hkl:j < ls.length:=by rw [HN.out];exact hlt
     have k0:(0:Int)<=(j:Int):=aa _
     have k1:(j:Int) < (k:Int):=by omega
     obtain ⟨b,o,B,d,rfl,_,c0,hsl,hd1,hd2⟩:=lst_at (T.out.h.fact (.head _)) j hkl
     have hsn:=flat_snoc hkl
     have hle2:=HLE.out (j+1)
     obtain ⟨x,hx⟩:=aX (ls[j])
     rw [hx] at hsn c0 hsl hd1
     have hrd:=reads_u8 hsl
     obtain ⟨m,hm'⟩:∃m,x.length=m:=⟨_,rfl⟩
     rw [hm'] at hrd c0 hd1
     have HR_:=aI hrd
     have HSN:=aI hsn
     have HQ2:=aI (show q+m=((ls.take (j+1)).flatten).length by rw [<-hsn,aK,HQ.out,hm'])
     have hqm:q+m<=nE:=by rw [HQ2.out,<-HNE.out];exact hle2
     have ht':=HT.out
     rw [HNE.out] at ht'
     clear hsn hx hm' hrd hsl hle2 hle
     go_wp2_with (at_builtin;refine wpList_append_row (by rfl) _ _ 35 (by rfl) 5 i0 _ 1 1 Tryz.underlying35 hi hz0 hz1 hz2 rfl (by decide) T.out (by rfl) _ _ m _ (byteVals x) (by rfl) HR_.out (byteVals_one _) (by unfold maxLen;omega) (by omega) ?_;intro v5 w5 M5 h5 _;rw [<-byteVals_append,HSN.out] at h5;replace T:=aI h5;clear h5)
     go_roundg (gk - 1)
     case measure=>omega
     case rel=>exact ⟨j+1,q+m,_,by omega,by go_num,HQ2.out,T.out⟩
    .obtain rfl:j=k:=by omega
     rw [HALL.out] at T
     go_wp2_with fail
     go_ret
     refine ⟨_,rfl,?_,T.out.h.bl⟩
     have hown:=T.out.own
     rw [show E.length=q by rw [HQ.out,HALL.out]]
     exact hown
def Sx.pre {α:Type} (E:α->List UInt8) (acc:List UInt8) (l:List α) (k:Nat):List UInt8:=acc++En.int l.length++((l.take k).map E).flatten
theorem Sx.pre_snoc {α:Type} (E:α->List UInt8) (acc:List UInt8) (l:List α) {k:Nat} (h:k < l.length):Sx.pre E acc l k++E l[k]=Sx.pre E acc l (k+1):=by
 unfold Sx.pre;rw [take_snoc' l k h,zY,List.flatten_append,zo];simp
theorem Sx.pre_zero {α:Type} (E:α->List UInt8) (acc:List UInt8) (l:List α):Sx.pre E acc l 0=acc++En.int l.length:=by unfold Sx.pre;simp
theorem Sx.pre_le {α:Type} (E:α->List UInt8) (acc:List UInt8) (l:List α) (k:Nat):(Sx.pre E acc l k).length<=(Sx.pre E acc l l.length).length:=by
 unfold Sx.pre
 have h:(l.map E).flatten=((l.take k).map E).flatten++((l.drop k).map E).flatten:=by rw [<-List.flatten_append,<-zY,List.take_append_drop]
 rw [List.take_length,h]
 simp only [aK];omega
def rtLF:Value:=.func (.func 44) #[] #[]
theorem listF_any {wb:World} {M:List Nat} {bx:List Box} {L:List (List Nat->World->Prop)} (E:Fld->List UInt8) (l:List Fld) (acc:List UInt8) (v:Value) (A:Option Addr) (c:Nat) (w:World) (hT:HRow wb [] M bx L 5 1 v acc.length (byteVals acc) w) (hl:SlAt M w A l)
  (hf:∀x∈l,∀us W,Mem.rep [] W x us->Calls Tryz.prog 44 #[.agg us.toArray] W (BytesP (E x) W)) (hm:l.length<=100000) (ht:(Sx.pre E acc l l.length).length<=1000000) :
  Calls Tryz.prog 40 #[v,.slice A l.length c,rtLF] w λe w'=>∃v' M',e=.returned v'/\HRow wb [] M' bx L 5 1 v' (Sx.pre E acc l l.length).length (byteVals (Sx.pre E acc l l.length)) w':=by
 obtain ⟨i0,hi,hz0,hz1,hz2⟩:=zq infoU8
 have T0:=aI (hT.add (keeps_sl A l) hl)
 have HF:=aI hf
 have HLE:=aI (λk=>ah (Sx.pre_le E acc l k) ht)
 have HZ:=aI (show acc++En.int l.length=Sx.pre E acc l 0 from (Sx.pre_zero E acc l).symm)
 have CI:=λW=>int_any (l.length:Int) W (by unfold inI;omega)
 have hle0:=HLE.out 0
 have HZL:=aI (show acc.length+(En.int l.length).length=(Sx.pre E acc l 0).length by rw [Sx.pre_zero,aK])
 obtain ⟨Av,cv,rfl⟩:=zP hT.own
 obtain ⟨na,hna⟩:=aX acc.length
 obtain ⟨ni,hni⟩:=aX ((En.int l.length).length)
 obtain ⟨n,hn⟩:=aX l.length
 have HN:=aI hn
 unfold BytesP at CI
 rw [hna] at HZL
 rw [<-HZL.out,hni] at hle0
 rw [hni] at CI HZL
 rw [hna] at T0
 rw [hn] at CI hm HZ ⊢
 rw [hna]
 replace CI:=aI CI
 unfold rtLF
 clear hf hT hl ht hna hn hni
 go_enter Tryz.func40,Tryz.ntmps40
 go_wp2_with (first | (go_at_call 17;refine (CI.out _).mono ?_;rintro e w1 ⟨v,rfl,hown,hb⟩;obtain ⟨Ab,cb,rfl⟩:=zP hown;have T:=aI (T0.out.below hb);have HR_:=aI (reads_own hown);clear hown hb) | (at_builtin;refine wpList_append_row (by rfl) _ _ 35 (by rfl) 5 i0 _ 1 1 Tryz.underlying35 hi hz0 hz1 hz2 rfl (by decide) T.out (by rfl) _ _ ni _ (byteVals (En.int n)) (by rfl) HR_.out (byteVals_one _) (by unfold maxLen;omega) (by omega) ?_;intro v5 w5 M5 h5 _;rw [<-byteVals_append,HZ.out,HZL.out] at h5;replace T:=aI h5;clear h5))
 go_loopg [0,16] n (λr v i wr=>∃(k:Nat) (M:List Nat),k+r=n/\i=.int .i64 k/\HRow wb [] M bx ((λM W=>SlAt M W A l)::L) 5 1 v (Sx.pre E acc l k).length (byteVals (Sx.pre E acc l k)) wr)
 case atStart=>exact ⟨0,_,by omega,rfl,T.out⟩
 case round =>
  clear T
  obtain ⟨k,M,hk,rfl,hH⟩:=hrel
  obtain ⟨wo,rfl⟩:=aY wr
  have T:=aI hH
  clear hH
  by_cases hlt:k < n
  .have hkl:k < l.length:=by rw [HN.out];exact hlt
   have k0:(0:Int)<=(k:Int):=aa _
   have k1:(k:Int) < (n:Int):=by omega
   obtain ⟨b,o,us,rfl,_,hr,hc⟩:=(T.out.h.fact (.head _)).get k hkl
   have hsn:=Sx.pre_snoc E acc l hkl
   have hle:=HLE.out (k+1)
   have HX:=HF.out _ (ze hkl)
   obtain ⟨x,hx⟩:=aX (l[k])
   rw [hx] at hsn hr HX
   have hr0:=hr
   obtain ⟨A1,cA,B1,dA,rfl,_⟩:=rep_fld hr0
   rw [show Mem.sz (Fld)=8 from rfl] at hc
   obtain ⟨c0,c1,c2,c3,c4,c5,c6,c7⟩:=aG8 (m:=k*8) hc
   obtain ⟨q,hq⟩:=aX ((Sx.pre E acc l k).length)
   obtain ⟨m,hm'⟩:∃n,(E x).length=n:=⟨_,rfl⟩
   have hqm:q+m=(Sx.pre E acc l (k+1)).length:=by rw [<-hsn,aK,hq,hm']
   have HQM:=aI hqm
   rw [<-hqm] at hle
   have HSN:=aI hsn
   rw [hq] at T
   have hb5:Below wo.heap.size wo (wo.alloc (.cells #[.string (Sc.nm x),.string (Sc.of_ x),.string (Sc.up x),.int .i64 (Sc.kd x),.int .i64 (Sc.lo x),.int .i64 (Sc.hi x),.slice A1 (Sc.words x).length cA,.slice B1 (Sc.wts x).length dA] 65)):=(zf _ _).alloc (ag _) _
   have hk5:Blk (wo.alloc (.cells #[.string (Sc.nm x),.string (Sc.of_ x),.string (Sc.up x),.int .i64 (Sc.kd x),.int .i64 (Sc.lo x),.int .i64 (Sc.hi x),.slice A1 (Sc.words x).length cA,.slice B1 (Sc.wts x).length dA] 65)) wo.heap.size 65 #[.string (Sc.nm x),.string (Sc.of_ x),.string (Sc.up x),.int .i64 (Sc.kd x),.int .i64 (Sc.lo x),.int .i64 (Sc.hi x),.slice A1 (Sc.words x).length cA,.slice B1 (Sc.wts x).length dA]:=zj _ _ _
   have CE:=HX _ _ (Mem.sub (G':=[]) (Mem.keep hr (za hb5)) (λg hg=>by cases hg))
   unfold BytesP at CE
   rw [hm'] at CE
   replace CE:=aI CE
   have T5:=aI (T.out.below hb5)
   have HK5:=aI hk5
   clear hsn hx hr hr0 hc hq hm' hb5 hk5 hqm HX T
   go_upto_region 5 with fail
   generalize wo.alloc (.cells #[.string (Sc.nm x),.string (Sc.of_ x),.string (Sc.up x),.int .i64 (Sc.kd x),.int .i64 (Sc.lo x),.int .i64 (Sc.hi x),.slice A1 (Sc.words x).length cA,.slice B1 (Sc.wts x).length dA] 65)=w5 at CE T5 HK5 ⊢
   generalize wo.heap.size=N5 at HK5 ⊢
   clear c0 c1 c2 c3 c4 c5 c6 c7
   have hk5:=HK5.out
   obtain ⟨z0,z1,z2,z3,z4,z5,z6,z7⟩:=aN8 hk5.cell;simp at z0 z1 z2 z3 z4 z5 z6 z7
   clear hk5
   go_wp2_with (first | (go_at_call 44;refine CE.out.mono ?_;rintro e w1 ⟨v,rfl,hown,hb⟩;obtain ⟨Ab,cb,rfl⟩:=zP hown;have T:=aI (T5.out.below hb);have HR_:=aI (reads_own hown);clear hown hb) | (at_builtin;refine wpList_append_row (by rfl) _ _ 35 (by rfl) 5 i0 _ 1 1 Tryz.underlying35 hi hz0 hz1 hz2 rfl (by decide) T.out (by rfl) _ _ m _ (byteVals (E x)) (by rfl) HR_.out (byteVals_one _) (by unfold maxLen;omega) (by omega) ?_;intro v5 w6 M5 h5 _;rw [<-byteVals_append,HSN.out,HQM.out] at h5;replace T:=aI h5;clear h5))
   go_roundg (gk - 1)
   case measure=>omega
   case rel=>exact ⟨k+1,_,by omega,by go_num,T.out⟩
  .obtain rfl:k=n:=by omega
   go_wp2_with fail
   go_ret
   exact ⟨_,_,rfl,T.out.less (λ_ h=>.tail _ h)⟩
def rtLK:Value:=.func (.func 39) #[] #[]
theorem listK_any {wb:World} {M:List Nat} {bx:List Box} {L:List (List Nat->World->Prop)} (E:Knd->List UInt8) (l:List Knd) (acc:List UInt8) (v:Value) (A:Option Addr) (c:Nat) (w:World) (hT:HRow wb [] M bx L 5 1 v acc.length (byteVals acc) w) (hl:SlAt M w A l)
  (hf:∀x∈l,∀us W,Mem.rep [] W x us->Calls Tryz.prog 39 #[.agg us.toArray] W (BytesP (E x) W)) (hm:l.length<=100000) (ht:(Sx.pre E acc l l.length).length<=1000000) :
  Calls Tryz.prog 38 #[v,.slice A l.length c,rtLK] w λe w'=>∃v' M',e=.returned v'/\HRow wb [] M' bx L 5 1 v' (Sx.pre E acc l l.length).length (byteVals (Sx.pre E acc l l.length)) w':=by
 obtain ⟨i0,hi,hz0,hz1,hz2⟩:=zq infoU8
 have T0:=aI (hT.add (keeps_sl A l) hl)
 have HF:=aI hf
 have HLE:=aI (λk=>ah (Sx.pre_le E acc l k) ht)
 have HZ:=aI (show acc++En.int l.length=Sx.pre E acc l 0 from (Sx.pre_zero E acc l).symm)
 have CI:=λW=>int_any (l.length:Int) W (by unfold inI;omega)
 have hle0:=HLE.out 0
 have HZL:=aI (show acc.length+(En.int l.length).length=(Sx.pre E acc l 0).length by rw [Sx.pre_zero,aK])
 obtain ⟨Av,cv,rfl⟩:=zP hT.own
 obtain ⟨na,hna⟩:=aX acc.length
 obtain ⟨ni,hni⟩:=aX ((En.int l.length).length)
 obtain ⟨n,hn⟩:=aX l.length
 have HN:=aI hn
 unfold BytesP at CI
 rw [hna] at HZL
 rw [<-HZL.out,hni] at hle0
 rw [hni] at CI HZL
 rw [hna] at T0
 rw [hn] at CI hm HZ ⊢
 rw [hna]
 replace CI:=aI CI
 unfold rtLK
 clear hf hT hl ht hna hn hni
 go_enter Tryz.func38,Tryz.ntmps38
 go_wp2_with (first | (go_at_call 17;refine (CI.out _).mono ?_;rintro e w1 ⟨v,rfl,hown,hb⟩;obtain ⟨Ab,cb,rfl⟩:=zP hown;have T:=aI (T0.out.below hb);have HR_:=aI (reads_own hown);clear hown hb) | (at_builtin;refine wpList_append_row (by rfl) _ _ 35 (by rfl) 5 i0 _ 1 1 Tryz.underlying35 hi hz0 hz1 hz2 rfl (by decide) T.out (by rfl) _ _ ni _ (byteVals (En.int n)) (by rfl) HR_.out (byteVals_one _) (by unfold maxLen;omega) (by omega) ?_;intro v5 w5 M5 h5 _;rw [<-byteVals_append,HZ.out,HZL.out] at h5;replace T:=aI h5;clear h5))
 go_loopg [0,16] n (λr v i wr=>∃(k:Nat) (M:List Nat),k+r=n/\i=.int .i64 k/\HRow wb [] M bx ((λM W=>SlAt M W A l)::L) 5 1 v (Sx.pre E acc l k).length (byteVals (Sx.pre E acc l k)) wr)
 case atStart=>exact ⟨0,_,by omega,rfl,T.out⟩
 case round =>
  clear T
  obtain ⟨k,M,hk,rfl,hH⟩:=hrel
  obtain ⟨wo,rfl⟩:=aY wr
  have T:=aI hH
  clear hH
  by_cases hlt:k < n
  .have hkl:k < l.length:=by rw [HN.out];exact hlt
   have k0:(0:Int)<=(k:Int):=aa _
   have k1:(k:Int) < (n:Int):=by omega
   obtain ⟨b,o,us,rfl,_,hr,hc⟩:=(T.out.h.fact (.head _)).get k hkl
   have hsn:=Sx.pre_snoc E acc l hkl
   have hle:=HLE.out (k+1)
   have HX:=HF.out _ (ze hkl)
   obtain ⟨x,hx⟩:=aX (l[k])
   rw [hx] at hsn hr HX
   have hr0:=hr
   obtain ⟨A1,cA,rfl,_⟩:=rep_knd hr0
   rw [show Mem.sz (Knd)=4 from rfl] at hc
   obtain ⟨c0,c1,c2,c3⟩:=aG4 (m:=k*4) hc
   obtain ⟨q,hq⟩:=aX ((Sx.pre E acc l k).length)
   obtain ⟨m,hm'⟩:∃n,(E x).length=n:=⟨_,rfl⟩
   have hqm:q+m=(Sx.pre E acc l (k+1)).length:=by rw [<-hsn,aK,hq,hm']
   have HQM:=aI hqm
   rw [<-hqm] at hle
   have HSN:=aI hsn
   rw [hq] at T
   have hb5:Below wo.heap.size wo (wo.alloc (.cells #[.string x.1,.int .i64 x.2.1,.int .i64 x.2.2.1,.slice A1 (Sc.flds x).length cA] 52)):=(zf _ _).alloc (ag _) _
   have hk5:Blk (wo.alloc (.cells #[.string x.1,.int .i64 x.2.1,.int .i64 x.2.2.1,.slice A1 (Sc.flds x).length cA] 52)) wo.heap.size 52 #[.string x.1,.int .i64 x.2.1,.int .i64 x.2.2.1,.slice A1 (Sc.flds x).length cA]:=zj _ _ _
   have CE:=HX _ _ (Mem.sub (G':=[]) (Mem.keep hr (za hb5)) (λg hg=>by cases hg))
   unfold BytesP at CE
   rw [hm'] at CE
   replace CE:=aI CE
   have T5:=aI (T.out.below hb5)
   have HK5:=aI hk5
   clear hsn hx hr hr0 hc hq hm' hb5 hk5 hqm HX T
   go_upto_region 5 with fail
   generalize wo.alloc (.cells #[.string x.1,.int .i64 x.2.1,.int .i64 x.2.2.1,.slice A1 (Sc.flds x).length cA] 52)=w5 at CE T5 HK5 ⊢
   generalize wo.heap.size=N5 at HK5 ⊢
   clear c0 c1 c2 c3
   have hk5:=HK5.out
   obtain ⟨z0,z1,z2,z3⟩:=aN4 hk5.cell;simp at z0 z1 z2 z3
   clear hk5
   go_wp2_with (first | (go_at_call 39;refine CE.out.mono ?_;rintro e w1 ⟨v,rfl,hown,hb⟩;obtain ⟨Ab,cb,rfl⟩:=zP hown;have T:=aI (T5.out.below hb);have HR_:=aI (reads_own hown);clear hown hb) | (at_builtin;refine wpList_append_row (by rfl) _ _ 35 (by rfl) 5 i0 _ 1 1 Tryz.underlying35 hi hz0 hz1 hz2 rfl (by decide) T.out (by rfl) _ _ m _ (byteVals (E x)) (by rfl) HR_.out (byteVals_one _) (by unfold maxLen;omega) (by omega) ?_;intro v5 w6 M5 h5 _;rw [<-byteVals_append,HSN.out,HQM.out] at h5;replace T:=aI h5;clear h5))
   go_roundg (gk - 1)
   case measure=>omega
   case rel=>exact ⟨k+1,_,by omega,by go_num,T.out⟩
  .obtain rfl:k=n:=by omega
   go_wp2_with fail
   go_ret
   exact ⟨_,_,rfl,T.out.less (λ_ h=>.tail _ h)⟩
def rtLL:Value:=.func (.func 46) #[] #[]
theorem listL_any {wb:World} {M:List Nat} {bx:List Box} {L:List (List Nat->World->Prop)} (E:Lif->List UInt8) (l:List Lif) (acc:List UInt8) (v:Value) (A:Option Addr) (c:Nat) (w:World) (hT:HRow wb [] M bx L 5 1 v acc.length (byteVals acc) w) (hl:SlAt M w A l)
  (hf:∀x∈l,∀us W,Mem.rep [] W x us->Calls Tryz.prog 46 #[.agg us.toArray] W (BytesP (E x) W)) (hm:l.length<=100000) (ht:(Sx.pre E acc l l.length).length<=1000000) :
  Calls Tryz.prog 45 #[v,.slice A l.length c,rtLL] w λe w'=>∃v' M',e=.returned v'/\HRow wb [] M' bx L 5 1 v' (Sx.pre E acc l l.length).length (byteVals (Sx.pre E acc l l.length)) w':=by
 obtain ⟨i0,hi,hz0,hz1,hz2⟩:=zq infoU8
 have T0:=aI (hT.add (keeps_sl A l) hl)
 have HF:=aI hf
 have HLE:=aI (λk=>ah (Sx.pre_le E acc l k) ht)
 have HZ:=aI (show acc++En.int l.length=Sx.pre E acc l 0 from (Sx.pre_zero E acc l).symm)
 have CI:=λW=>int_any (l.length:Int) W (by unfold inI;omega)
 have hle0:=HLE.out 0
 have HZL:=aI (show acc.length+(En.int l.length).length=(Sx.pre E acc l 0).length by rw [Sx.pre_zero,aK])
 obtain ⟨Av,cv,rfl⟩:=zP hT.own
 obtain ⟨na,hna⟩:=aX acc.length
 obtain ⟨ni,hni⟩:=aX ((En.int l.length).length)
 obtain ⟨n,hn⟩:=aX l.length
 have HN:=aI hn
 unfold BytesP at CI
 rw [hna] at HZL
 rw [<-HZL.out,hni] at hle0
 rw [hni] at CI HZL
 rw [hna] at T0
 rw [hn] at CI hm HZ ⊢
 rw [hna]
 replace CI:=aI CI
 unfold rtLL
 clear hf hT hl ht hna hn hni
 go_enter Tryz.func45,Tryz.ntmps45
 go_wp2_with (first | (go_at_call 17;refine (CI.out _).mono ?_;rintro e w1 ⟨v,rfl,hown,hb⟩;obtain ⟨Ab,cb,rfl⟩:=zP hown;have T:=aI (T0.out.below hb);have HR_:=aI (reads_own hown);clear hown hb) | (at_builtin;refine wpList_append_row (by rfl) _ _ 35 (by rfl) 5 i0 _ 1 1 Tryz.underlying35 hi hz0 hz1 hz2 rfl (by decide) T.out (by rfl) _ _ ni _ (byteVals (En.int n)) (by rfl) HR_.out (byteVals_one _) (by unfold maxLen;omega) (by omega) ?_;intro v5 w5 M5 h5 _;rw [<-byteVals_append,HZ.out,HZL.out] at h5;replace T:=aI h5;clear h5))
 go_loopg [0,16] n (λr v i wr=>∃(k:Nat) (M:List Nat),k+r=n/\i=.int .i64 k/\HRow wb [] M bx ((λM W=>SlAt M W A l)::L) 5 1 v (Sx.pre E acc l k).length (byteVals (Sx.pre E acc l k)) wr)
 case atStart=>exact ⟨0,_,by omega,rfl,T.out⟩
 case round =>
  clear T
  obtain ⟨k,M,hk,rfl,hH⟩:=hrel
  obtain ⟨wo,rfl⟩:=aY wr
  have T:=aI hH
  clear hH
  by_cases hlt:k < n
  .have hkl:k < l.length:=by rw [HN.out];exact hlt
   have k0:(0:Int)<=(k:Int):=aa _
   have k1:(k:Int) < (n:Int):=by omega
   obtain ⟨b,o,us,rfl,_,hr,hc⟩:=(T.out.h.fact (.head _)).get k hkl
   have hsn:=Sx.pre_snoc E acc l hkl
   have hle:=HLE.out (k+1)
   have HX:=HF.out _ (ze hkl)
   obtain ⟨x,hx⟩:=aX (l[k])
   rw [hx] at hsn hr HX
   have hr0:=hr
   obtain ⟨A1,cA,B1,dA,rfl,_⟩:=rep_lif hr0
   rw [show Mem.sz (Lif)=3 from rfl] at hc
   obtain ⟨c0,c1,c2⟩:=aG3 (m:=k*3) hc
   obtain ⟨q,hq⟩:=aX ((Sx.pre E acc l k).length)
   obtain ⟨m,hm'⟩:∃n,(E x).length=n:=⟨_,rfl⟩
   have hqm:q+m=(Sx.pre E acc l (k+1)).length:=by rw [<-hsn,aK,hq,hm']
   have HQM:=aI hqm
   rw [<-hqm] at hle
   have HSN:=aI hsn
   rw [hq] at T
   have hb5:Below wo.heap.size wo (wo.alloc (.cells #[.string x.1,.slice A1 x.2.1.length cA,.slice B1 x.2.2.length dA] 57)):=(zf _ _).alloc (ag _) _
   have hk5:Blk (wo.alloc (.cells #[.string x.1,.slice A1 x.2.1.length cA,.slice B1 x.2.2.length dA] 57)) wo.heap.size 57 #[.string x.1,.slice A1 x.2.1.length cA,.slice B1 x.2.2.length dA]:=zj _ _ _
   have CE:=HX _ _ (Mem.sub (G':=[]) (Mem.keep hr (za hb5)) (λg hg=>by cases hg))
   unfold BytesP at CE
   rw [hm'] at CE
   replace CE:=aI CE
   have T5:=aI (T.out.below hb5)
   have HK5:=aI hk5
   clear hsn hx hr hr0 hc hq hm' hb5 hk5 hqm HX T
   go_upto_region 5 with fail
   generalize wo.alloc (.cells #[.string x.1,.slice A1 x.2.1.length cA,.slice B1 x.2.2.length dA] 57)=w5 at CE T5 HK5 ⊢
   generalize wo.heap.size=N5 at HK5 ⊢
   clear c0 c1 c2
   have hk5:=HK5.out
   obtain ⟨z0,z1,z2⟩:=aN3 hk5.cell;simp at z0 z1 z2
   clear hk5
   go_wp2_with (first | (go_at_call 46;refine CE.out.mono ?_;rintro e w1 ⟨v,rfl,hown,hb⟩;obtain ⟨Ab,cb,rfl⟩:=zP hown;have T:=aI (T5.out.below hb);have HR_:=aI (reads_own hown);clear hown hb) | (at_builtin;refine wpList_append_row (by rfl) _ _ 35 (by rfl) 5 i0 _ 1 1 Tryz.underlying35 hi hz0 hz1 hz2 rfl (by decide) T.out (by rfl) _ _ m _ (byteVals (E x)) (by rfl) HR_.out (byteVals_one _) (by unfold maxLen;omega) (by omega) ?_;intro v5 w6 M5 h5 _;rw [<-byteVals_append,HSN.out,HQM.out] at h5;replace T:=aI h5;clear h5))
   go_roundg (gk - 1)
   case measure=>omega
   case rel=>exact ⟨k+1,_,by omega,by go_num,T.out⟩
  .obtain rfl:k=n:=by omega
   go_wp2_with fail
   go_ret
   exact ⟨_,_,rfl,T.out.less (λ_ h=>.tail _ h)⟩
def rtLR:Value:=.func (.func 48) #[] #[]
theorem listR_any {wb:World} {M:List Nat} {bx:List Box} {L:List (List Nat->World->Prop)} (E:Rul->List UInt8) (l:List Rul) (acc:List UInt8) (v:Value) (A:Option Addr) (c:Nat) (w:World) (hT:HRow wb [] M bx L 5 1 v acc.length (byteVals acc) w) (hl:SlAt M w A l)
  (hf:∀x∈l,∀us W,Mem.rep [] W x us->Calls Tryz.prog 48 #[.agg us.toArray] W (BytesP (E x) W)) (hm:l.length<=100000) (ht:(Sx.pre E acc l l.length).length<=1000000) :
  Calls Tryz.prog 47 #[v,.slice A l.length c,rtLR] w λe w'=>∃v' M',e=.returned v'/\HRow wb [] M' bx L 5 1 v' (Sx.pre E acc l l.length).length (byteVals (Sx.pre E acc l l.length)) w':=by
 obtain ⟨i0,hi,hz0,hz1,hz2⟩:=zq infoU8
 have T0:=aI (hT.add (keeps_sl A l) hl)
 have HF:=aI hf
 have HLE:=aI (λk=>ah (Sx.pre_le E acc l k) ht)
 have HZ:=aI (show acc++En.int l.length=Sx.pre E acc l 0 from (Sx.pre_zero E acc l).symm)
 have CI:=λW=>int_any (l.length:Int) W (by unfold inI;omega)
 have hle0:=HLE.out 0
 have HZL:=aI (show acc.length+(En.int l.length).length=(Sx.pre E acc l 0).length by rw [Sx.pre_zero,aK])
 obtain ⟨Av,cv,rfl⟩:=zP hT.own
 obtain ⟨na,hna⟩:=aX acc.length
 obtain ⟨ni,hni⟩:=aX ((En.int l.length).length)
 obtain ⟨n,hn⟩:=aX l.length
 have HN:=aI hn
 unfold BytesP at CI
 rw [hna] at HZL
 rw [<-HZL.out,hni] at hle0
 rw [hni] at CI HZL
 rw [hna] at T0
 rw [hn] at CI hm HZ ⊢
 rw [hna]
 replace CI:=aI CI
 unfold rtLR
 clear hf hT hl ht hna hn hni
 go_enter Tryz.func47,Tryz.ntmps47
 go_wp2_with (first | (go_at_call 17;refine (CI.out _).mono ?_;rintro e w1 ⟨v,rfl,hown,hb⟩;obtain ⟨Ab,cb,rfl⟩:=zP hown;have T:=aI (T0.out.below hb);have HR_:=aI (reads_own hown);clear hown hb) | (at_builtin;refine wpList_append_row (by rfl) _ _ 35 (by rfl) 5 i0 _ 1 1 Tryz.underlying35 hi hz0 hz1 hz2 rfl (by decide) T.out (by rfl) _ _ ni _ (byteVals (En.int n)) (by rfl) HR_.out (byteVals_one _) (by unfold maxLen;omega) (by omega) ?_;intro v5 w5 M5 h5 _;rw [<-byteVals_append,HZ.out,HZL.out] at h5;replace T:=aI h5;clear h5))
 go_loopg [0,16] n (λr v i wr=>∃(k:Nat) (M:List Nat),k+r=n/\i=.int .i64 k/\HRow wb [] M bx ((λM W=>SlAt M W A l)::L) 5 1 v (Sx.pre E acc l k).length (byteVals (Sx.pre E acc l k)) wr)
 case atStart=>exact ⟨0,_,by omega,rfl,T.out⟩
 case round =>
  clear T
  obtain ⟨k,M,hk,rfl,hH⟩:=hrel
  obtain ⟨wo,rfl⟩:=aY wr
  have T:=aI hH
  clear hH
  by_cases hlt:k < n
  .have hkl:k < l.length:=by rw [HN.out];exact hlt
   have k0:(0:Int)<=(k:Int):=aa _
   have k1:(k:Int) < (n:Int):=by omega
   obtain ⟨b,o,us,rfl,_,hr,hc⟩:=(T.out.h.fact (.head _)).get k hkl
   have hsn:=Sx.pre_snoc E acc l hkl
   have hle:=HLE.out (k+1)
   have HX:=HF.out _ (ze hkl)
   obtain ⟨x,hx⟩:=aX (l[k])
   rw [hx] at hsn hr HX
   have hr0:=hr
   obtain ⟨rfl,_⟩:=rep_rul hr0
   rw [show Mem.sz (Rul)=5 from rfl] at hc
   obtain ⟨c0,c1,c2,c3,c4⟩:=aG5 (m:=k*5) hc
   obtain ⟨q,hq⟩:=aX ((Sx.pre E acc l k).length)
   obtain ⟨m,hm'⟩:∃n,(E x).length=n:=⟨_,rfl⟩
   have hqm:q+m=(Sx.pre E acc l (k+1)).length:=by rw [<-hsn,aK,hq,hm']
   have HQM:=aI hqm
   rw [<-hqm] at hle
   have HSN:=aI hsn
   rw [hq] at T
   have hb5:Below wo.heap.size wo (wo.alloc (.cells #[.string x.1,.string x.2.1,.string x.2.2.1,.string x.2.2.2.1,.int .i64 x.2.2.2.2] 60)):=(zf _ _).alloc (ag _) _
   have hk5:Blk (wo.alloc (.cells #[.string x.1,.string x.2.1,.string x.2.2.1,.string x.2.2.2.1,.int .i64 x.2.2.2.2] 60)) wo.heap.size 60 #[.string x.1,.string x.2.1,.string x.2.2.1,.string x.2.2.2.1,.int .i64 x.2.2.2.2]:=zj _ _ _
   have CE:=HX _ _ (Mem.sub (G':=[]) (Mem.keep hr (za hb5)) (λg hg=>by cases hg))
   unfold BytesP at CE
   rw [hm'] at CE
   replace CE:=aI CE
   have T5:=aI (T.out.below hb5)
   have HK5:=aI hk5
   clear hsn hx hr hr0 hc hq hm' hb5 hk5 hqm HX T
   go_upto_region 5 with fail
   generalize wo.alloc (.cells #[.string x.1,.string x.2.1,.string x.2.2.1,.string x.2.2.2.1,.int .i64 x.2.2.2.2] 60)=w5 at CE T5 HK5 ⊢
   generalize wo.heap.size=N5 at HK5 ⊢
   clear c0 c1 c2 c3 c4
   have hk5:=HK5.out
   obtain ⟨z0,z1,z2,z3,z4⟩:=aN5 hk5.cell;simp at z0 z1 z2 z3 z4
   clear hk5
   go_wp2_with (first | (go_at_call 48;refine CE.out.mono ?_;rintro e w1 ⟨v,rfl,hown,hb⟩;obtain ⟨Ab,cb,rfl⟩:=zP hown;have T:=aI (T5.out.below hb);have HR_:=aI (reads_own hown);clear hown hb) | (at_builtin;refine wpList_append_row (by rfl) _ _ 35 (by rfl) 5 i0 _ 1 1 Tryz.underlying35 hi hz0 hz1 hz2 rfl (by decide) T.out (by rfl) _ _ m _ (byteVals (E x)) (by rfl) HR_.out (byteVals_one _) (by unfold maxLen;omega) (by omega) ?_;intro v5 w6 M5 h5 _;rw [<-byteVals_append,HSN.out,HQM.out] at h5;replace T:=aI h5;clear h5))
   go_roundg (gk - 1)
   case measure=>omega
   case rel=>exact ⟨k+1,_,by omega,by go_num,T.out⟩
  .obtain rfl:k=n:=by omega
   go_wp2_with fail
   go_ret
   exact ⟨_,_,rfl,T.out.less (λ_ h=>.tail _ h)⟩
end
end Go.Proofs.YtobcnhmhgoccnaaGreatDoor
