/- Parts of the proof, joined: SxP8, SxSc, SxP9, SxE1, SxE2. -/
import Derived.Test.YtobcnhmhgoccnaaGreatDoorV22
import Derived.Test.YtobcnhmhgoccnaaGreatDoorV24
set_option maxRecDepth 100000
set_option maxHeartbeats 16000000
set_option linter.unusedVariables false
set_option linter.unusedSimpArgs false
set_option linter.unusedSectionVars false
namespace Go.Proofs.YtobcnhmhgoccnaaGreatDoor
open Go Go.RowKit
section
section
variable {w:World} {g:Nat} {st:Sx.St} {M:List Nat} {bx:List Box} {rs:List Rw} {L:List (List Nat->World->Prop)} {W:World}
theorem kind_any (he:SEnv w) (h:PH (pkP w g) st M bx rs L W):Calls Tryz.prog 105 #[.pointer (some ⟨g,0,none⟩)] W (RdA (pkP w g) Sx.kind st bx rs L):=by
 obtain ⟨N,hN⟩:=aX W.heap.size
 have T:=aI (h.new #[.string ⟨#[]⟩,.int .i64 0,.int .i64 0,.slice none 0 0] 52 hN)
 have HE:=aI he
 clear h he
 go_enter Tryz.func105,Tryz.ntmps105
 go_upto_region 3 with (first | (go_at_call 101;(with_reducible refine (needKind_any T.out).mono ?_);rintro e w1 ⟨st1,rfl,x1,h1⟩;replace T:=aI h1;have X1:=aI x1;clear h1 x1) | (go_at_call 143;(with_reducible refine (nameR_any T.out).mono ?_);rintro e w1 ⟨n,st2,rfl,i2,x2,h2⟩;replace T:=aI h2;have X2:=aI x2;have I2:=aI i2;clear h2 x2 i2))
 obtain ⟨N1,hN1⟩:=aX w1.heap.size
 replace T:=aI (T.out.new #[.string (Sx.ofT n),.int .i64 0,.int .i64 0,.slice none 0 0] 52 hN1)
 rw [hN1]
 go_upto_region 6 with (first | (go_at_call 102;(with_reducible refine (num_any' HE.out T.out).mono ?_);rintro e w3 ⟨n3,st3,rfl,i3,x3,h3⟩;replace T:=aI h3;have X3:=aI x3;have I3:=aI i3;clear h3 x3 i3;have B:=T.out.box (.head _);obtain ⟨z0,z1,z2,z3⟩:=aN4 B.cell;obtain ⟨f0,f1,f2,f3⟩:=aN4 B.frozen;simp at z0 z1 z2 z3;dsimp only at f0 f1 f2 f3;clear B) | (go_at_call 102;(with_reducible refine (num_any' HE.out (T.out.set0 1 _)).mono ?_);rintro e w4 ⟨n4,st4,rfl,i4,x4,h4⟩;replace T:=aI h4;have X4:=aI x4;have I4:=aI i4;clear h4 x4 i4;clear z0 z1 z2 z3 f0 f1 f2 f3;have B:=T.out.box (.head _);obtain ⟨z0,z1,z2,z3⟩:=aN4 B.cell;obtain ⟨f0,f1,f2,f3⟩:=aN4 B.frozen;simp at z0 z1 z2 z3;dsimp only at f0 f1 f2 f3;clear B) | (go_at_call 144;(with_reducible refine (someF_any HE.out (T.out.set0 2 _)).mono ?_);rintro e w5 ⟨fs,A5,c5,st5,M5,rfl,d1,d2,d3,x5,h5⟩;replace T:=aI h5;have X5:=aI x5;have D:=aI (show fs.length<=c5/\c5<=9223372036854775807 from ⟨d1,d2⟩);clear h5 x5 d1 d2 d3;clear z0 z1 z2 z3 f0 f1 f2 f3;have B:=T.out.box (.head _);obtain ⟨z0,z1,z2,z3⟩:=aN4 B.cell;obtain ⟨f0,f1,f2,f3⟩:=aN4 B.frozen;simp at z0 z1 z2 z3;dsimp only at f0 f1 f2 f3;clear B))
 have T7:=aI (show PH (pkP w g) st5 M5 ((N1,52,#[.string (Sx.ofT n),.int .i64 n3,.int .i64 n4,.slice A5 fs.length c5])::(N,52,#[.string ⟨#[]⟩,.int .i64 0,.int .i64 0,.slice none 0 0])::bx) rs _ _ from T.out.set0 3 (.slice A5 fs.length c5))
 clear T z0 z1 z2 z3 f0 f1 f2 f3
 generalize w5.setCell ⟨N1,3,none⟩ (.slice A5 fs.length c5)=W8 at *
 have B:=T7.out.box (.head _);obtain ⟨z0,z1,z2,z3⟩:=aN4 B.cell
 have C:=T7.out.box (.tail _ (.head _));obtain ⟨y0,y1,y2,y3⟩:=aN4 C.cell;obtain ⟨f0,f1,f2,f3⟩:=aN4 C.frozen
 simp at z0 z1 z2 z3 y0 y1 y2 y3
 dsimp only at f0 f1 f2 f3
 clear B C
 have T8:=aI (show PH (pkP w g) st5 M5 ((N,52,#[.string (Sx.ofT n),.int .i64 n3,.int .i64 n4,.slice A5 fs.length c5])::(N1,52,#[.string (Sx.ofT n),.int .i64 n3,.int .i64 n4,.slice A5 fs.length c5])::bx) rs _ _ from (((T7.out.bswap.set0 0 (.string (Sx.ofT n))).set0 1 (.int .i64 n3)).set0 2 (.int .i64 n4)).set0 3 (.slice A5 fs.length c5))
 go_wp2_with fail
 clear y0 y1 y2 y3
 have C:=T8.out.box (.head _);obtain ⟨y0,y1,y2,y3⟩:=aN4 C.cell
 simp at y0 y1 y2 y3
 have hfs:=T8.out.fact (.head _)
 refine zi (v:=.agg #[.string (Sx.ofT n),.int .i64 n3,.int .i64 n4,.slice A5 fs.length c5]) ?_ rfl ?_
 .simp [results,Tryz.results105,go_sem,y0,y1,y2,y3]
 .exact ⟨(Sx.ofT n,n3,n4,fs),_,st5,_,rfl,Sx.nx_bind X1.out (Sx.nx_bind X2.out (Sx.nx_bind X3.out (Sx.nx_bind X4.out (Sx.nx_bind X5.out (Sx.nx_ret _ _))))),(T8.out.unbox.unbox.add (keeps_rep (Sx.ofT n,n3,n4,fs) _) ⟨[_],_,rfl,⟨rfl,Nat.le_trans I2.out (by decide)⟩,[_],_,rfl,⟨rfl,I3.out⟩,[_],_,rfl,⟨rfl,I4.out⟩,⟨_,_,rfl,D.out.1,D.out.2,hfs⟩⟩).less λP hP=>by
   rcases aL hP with rfl | hP
   .exact .head _
   .exact .tail _ (.tail _ hP)⟩
theorem someK_any (he:SEnv w) {N:Nat} {wd:Sx.Txt} (hwd:wd≠[]) (hN:IsB N wd∈L) (h:PH (pkP w g) st M bx rs L W) :
  Calls Tryz.prog 103 #[.pointer (some ⟨g,0,none⟩),.func (.func 142) #[] #[.pointer (some ⟨N,0,none⟩)],.func (.func 105) #[.pointer (some ⟨g,0,none⟩)] #[]] W (RdL (pkP w g) (λl=>Sx.many (λt=>t == wd) Sx.kind l.length [] l) st bx rs L):=by
 have T:=aI ((h.push 52 4).add (keeps_flat ([]:List (Knd)) []) rfl)
 have HE:=aI he
 have HTK:=aI (ph_tok h).1
 have HN:=aI hN
 clear hN
 clear h he
 obtain ⟨sx,hsx⟩:=aX (Sx.left st)
 have HSX:=aI hsx
 go_enter Tryz.func103,Tryz.ntmps103
 go_wp2_with fail
 go_loopg [7] sx (λr v7 wr=>∃(st1:Sx.St) (acc:List (Knd)) (xs:List Value) (M1:List Nat),PH (pkP w g) st1 M1 bx (⟨52,4,v7,acc.length,xs⟩::rs) ((λM W=>Flat M W acc xs)::L) wr/\Sx.left st1=r/\acc.length+r<=sx/\(∀x st',Sx.Nx (Sx.many (λt=>t == wd) Sx.kind st1.1.length acc) st1 x st'->Sx.Nx (λl=>Sx.many (λt=>t == wd) Sx.kind l.length [] l) st x st'))
 case atStart=>exact ⟨st,[],[],_,T.out,HSX.out,by simp,λx st' hx=>hx⟩
 case round =>
  obtain ⟨st1,acc,xs,M1,hH,hlf,hal,hnx⟩:=hrel
  obtain ⟨wo,rfl⟩:=aY wr
  replace T:=aI hH
  have HX:=aI hnx
  have HL:=aI hlf
  clear hH hnx hlf
  obtain ⟨l,f⟩:=st1
  obtain ⟨A7,c7,rfl⟩:=T.out.form
  obtain ⟨cs9,hb9,A9,c9,rfl,_⟩:=T.out.pbox
  have z1:=hb9.cell 1
  simp at z1
  clear hb9
  have cN:=isb_cell (T.out.fact (.tail _ HN.out))
  have HA8:=aI (show acc.length<=8193 by have h1:=HTK.out;have h2:=HSX.out;unfold Sx.left at h2;split at h2 <;> omega)
  cases f
  .obtain ⟨bb,hbb⟩:∃b,(λt=>t == wd) (Sx.pk (l,false))=b:=⟨_,rfl⟩
   cases bb
   .have HST:=aI (Sx.nx_many_stop (begins:=(λt=>t == wd)) (read:=Sx.kind) (st:=(l,false)) (f:=l.length) (acc:=acc) (λ_ t r hl=>by obtain rfl:l=t::r:=hl;exact hbb))
    have hb8:(Sx.pk (l,false) == wd)=false:=hbb
    clear hbb
    go_wp2_with (first | (go_at_call 139;(with_reducible refine aS (peek_any T.out) ?_)) | (go_at_call 142;(with_reducible refine aS (is1_any _ wd N _ cN) ?_)))
    go_ret
    obtain ⟨A,c,M',hv,hc1,hc2,h4,_⟩:=T.out.freeze (α:=_) rfl rfl (T.out.fact (.head _))
    injection hv with hv1 hv2 hv3
    subst hv1 hv3
    exact ⟨acc,_,_,_,M',rfl,hc1,hc2,HA8.out,HX.out _ _ HST.out,h4.less λP hP=>by
     rcases aL hP with rfl | hP
     .exact .head _
     .exact .tail _ (.tail _ hP)⟩
   .obtain ⟨t,r,rfl⟩:∃t r,l=t::r:=by
     cases l with
     | nil=>exact zU (hbb.symm.trans (show (([]:Sx.Txt) == wd)=false by cases wd with | nil=>exact zU rfl hwd | cons _ _=>rfl)) (by simp)
     | cons t r=>exact ⟨t,r,rfl⟩
    have HBB:=aI (show (λt=>t == wd) t.1=true from hbb)
    have hb8:(Sx.pk (t::r,false) == wd)=true:=hbb
    clear hbb
    go_wp2_with (first | (go_at_call 139;(with_reducible refine aS (peek_any T.out) ?_)) | (go_at_call 142;(with_reducible refine aS (is1_any _ wd N _ cN) ?_)) | (go_at_call 105;(with_reducible refine (kind_any HE.out T.out).mono ?_);rintro e w3 ⟨a,us,st3,M3,rfl,x3,h3⟩;obtain ⟨A1,c1,rfl,r1,r2,r3,r4,r5,r6⟩:=rep_knd (h3.fact (.head _));replace T:=aI h3;have X3:=aI x3;clear h3 x3) | (at_builtin;obtain ⟨i0,hI,hz0,hz1,hz2⟩:=zq infoKnd;refine wpList_append_ph (by rfl) _ _ 23 (by rfl) 52 i0 _ 4 56 Tryz.underlying23 hI hz0 hz1 hz2 rfl (by decide) (T.out.below (aP _ _)) (by rfl) _ _ 1 1 [.string a.1,.int .i64 a.2.1,.int .i64 a.2.2.1,.slice A1 (Sc.flds a).length c1] (by rfl) (reads_blk (zj _ _ _) rfl) (by simp [Value.oneCell']) (by have:=HA8.out;unfold maxLen;omega) (by have:=HA8.out;omega) ?_;intro v7 w7 M7 h7 _;replace T:=aI h7;clear h7 hI hz0 hz1 hz2))
    have hlt:=Sx.left_eats Sx.eats_kind X3.out
    have HFL:=aI ((T.out.fswap.flat (Flat.single (T.out.fact (.head _)))).less (L':=_::_) λP hP=>by
     rcases aL hP with rfl | hP
     .exact .head _
     .exact .tail _ (.tail _ hP))
    rw [HL.out] at hlt
    go_roundg (Sx.left st3)
    case measure=>exact hlt
    case rel=>exact ⟨st3,acc++[a],_,_,by rw [aK];exact HFL.out,rfl,by rw [aK,List.length_singleton];omega,λx st' hx=>HX.out _ _ (Sx.nx_many_step Sx.eats_kind HBB.out X3.out hx)⟩
  .have HST:=aI (Sx.nx_many_stop (begins:=(λt=>t == wd)) (read:=Sx.kind) (st:=(l,true)) (f:=l.length) (acc:=acc) (λh=>by cases h))
   go_wp2_with fail
   go_ret
   obtain ⟨A,c,M',hv,hc1,hc2,h4,_⟩:=T.out.freeze (α:=_) rfl rfl (T.out.fact (.head _))
   injection hv with hv1 hv2 hv3
   subst hv1 hv3
   exact ⟨acc,_,_,_,M',rfl,hc1,hc2,HA8.out,HX.out _ _ HST.out,h4.less λP hP=>by
    rcases aL hP with rfl | hP
    .exact .head _
    .exact .tail _ (.tail _ hP)⟩
end
end
section
def sTokVals (s:ByteArray) (l:List Tk):List Value:=l.flatMap λp=>[.string (s.extract p.1 p.2),.int .i64 (p.1:Int)]
theorem sTokVals_snoc (s:ByteArray) (l:List Tk) (p:Tk):sTokVals s l++[.string (s.extract p.1 p.2),.int .i64 (p.1:Int)]=sTokVals s (l++[p]):=by simp [sTokVals]
def tokOf (s:ByteArray) (p:Tk):Sx.Tok:=(Vm.piece s.data.toList p.1 p.2,p.1)
theorem ext_ofT (s:ByteArray) (a e:Nat):s.extract a e=Sx.ofT (Vm.piece s.data.toList a e):=by rw [<-Vm.piece_ext];exact str_eq rfl
theorem flat_stoks {G:List Nat} {w:World} {s:ByteArray} {n:Nat} (hn:n<=8192):∀{l:List Tk},(∀p∈l,p.1 < p.2/\p.2<=n)->Flat G w ((l.map (tokOf s)).map tokP) (sTokVals s l)
 | [],_=>rfl
 | p::l,h=>⟨[.string (s.extract p.1 p.2),.int .i64 (p.1:Int)],sTokVals s l,rfl,⟨[_],_,rfl,⟨by rw [ext_ofT];rfl,by
   show (Sx.ofT (Vm.piece s.data.toList p.1 p.2)).size<=_
   rw [ofT_size];unfold Vm.piece;rw [List.length_drop,zI];have:=h p (.head _);omega⟩,⟨rfl,by have:=h p (.head _);show inI (p.1:Int);unfold inI;omega⟩⟩,flat_stoks hn λq hq=>h q (.tail _ hq)⟩
theorem infoSTok:(Tryz.prog.info? 153).map (λi=>(i.zero,i.size,i.bytes))=some (some (.agg #[.string ⟨#[]⟩,.int .i64 0]),2,24):=by kernel_rfl
theorem tok_cases3 (c:UInt8):(Vm.isTok c=true/\decide (32 < (c.toNat:Int))=true/\decide ((c.toNat:Int)<=126)=true)∨(Vm.isTok c=false/\decide (32 < (c.toNat:Int))=false)∨(Vm.isTok c=false/\decide (32 < (c.toNat:Int))=true/\decide ((c.toNat:Int)<=126)=false):=by
 unfold Vm.isTok
 simp only [zw,Bool.and_eq_false_iff,zD,decide_eq_false_iff_not]
 omega
def PScanG (G:List Nat) (l:List UInt8) (w:World) (e:Ending) (w':World):Prop:=∃A c,e=.returned (.tuple #[.slice A (Sx.toks l).length c,.int .i64 (Sx.stopAt l:Nat)])/\(Sx.toks l).length<=c/\c<=9223372036854775807/\SlAt G w' A ((Sx.toks l).map tokP)/\TokOk (Sx.toks l)/\Below w.heap.size w w'
theorem pscan_end {s:ByteArray} {w W:World} {G:List Nat} (hG:∀g∈G,g < w.heap.size) {M:List Nat} {v:Value} {toks:List Tk} {e n:Nat} (T:HRow w G M [] [] 153 2 v toks.length (sTokVals s toks) W) (h:Vm.scan s.data.toList (n+1) 0=(toks,e)) (hn:s.size=n) (hbd:(∀p∈toks,p.1 < p.2/\p.2<=n)) (hm:n<=8192) (htl:toks.length<=n) :
  PScanG G s.data.toList w (.returned (.tuple #[v,.int .i64 (e:Nat)])) W:=by
 obtain ⟨A,c,hv,hc1,hc2,hF⟩:=T.freeze (l:=(toks.map (tokOf s)).map tokP) rfl (by simp) (flat_stoks hm hbd) hG
 subst hv
 have hl:s.data.toList.length=n:=by rw [Vm.strLn,hn]
 have ht:Sx.toks s.data.toList=toks.map (tokOf s):=by unfold Sx.toks;rw [hl,h];rfl
 have hst:Sx.stopAt s.data.toList=e:=by unfold Sx.stopAt;rw [hl,h]
 unfold PScanG
 rw [ht,hst]
 rw [zu] at hc1
 refine ⟨A,c,by rw [zu],hc1,hc2,(hF.fact (.head _)).sub (λg hg=>.inl (List.mem_append_right _ hg)),⟨by rw [zu];omega,λt ht=>?_⟩,hF.bl⟩
 obtain ⟨p,hp,rfl⟩:=List.mem_map.1 ht
 have hpb:=hbd p hp
 have hlen:(Vm.piece s.data.toList p.1 p.2).length=p.2 - p.1:=by unfold Vm.piece;rw [List.length_drop,zI,hl];omega
 refine ⟨λe=>?_,?_,?_⟩
 .have e:Vm.piece s.data.toList p.1 p.2=[]:=e
  rw [e] at hlen;simp at hlen;omega
 .show (Vm.piece s.data.toList p.1 p.2).length<=8192
  omega
 .show p.1<=8192
  omega
theorem pscanG_any (G:List Nat) (s:ByteArray) (w:World) (hG:∀g∈G,g < w.heap.size) (hs:s.size<=8192):Calls Tryz.prog 100 #[.string s] w (PScanG G s.data.toList w):=by
 obtain ⟨i0,hi,hz0,hz1,hz2⟩:=zq infoSTok
 have HII:=aI (show _/\_/\_/\_ from ⟨hi,hz0,hz1,hz2⟩)
 obtain ⟨n,hn⟩:=aX s.size
 have hsn:s.size=n:=hn
 rw [hn] at hs
 have T:=aI (HRow.start (e:=153) (size:=2) (held0 w G hG))
 clear hi hz0 hz1 hz2
 go_enter Tryz.func100,Tryz.ntmps100
 go_wp2_with fail
 go_loopg [4,5] n (λr v a wr=>∃(i f:Nat) (toks:List Tk) (M:List Nat),i+r=n/\a=.int .i64 i/\i<=n/\n < i+f/\toks.length<=i/\(∀p∈toks,p.1 < p.2/\p.2<=n)/\(toks++(Vm.scan s.data.toList f i).1,(Vm.scan s.data.toList f i).2)=Vm.scan s.data.toList (n+1) 0/\HRow w G M [] [] 153 2 v toks.length (sTokVals s toks) wr)
 case atStart=>exact ⟨0,n+1,[],_,by omega,rfl,by omega,by omega,by simp,(λ_ h=>by cases h),by simp,T.out⟩
 case round =>
  obtain ⟨i,f,toks,M,hk,rfl,hin,hfu,htl,hbd,hsc,hH⟩:=hrel
  obtain ⟨wo,rfl⟩:=aY wr
  obtain ⟨gq,rfl⟩:=aY gk
  replace T:=aI hH
  have HBD:=aI hbd
  obtain ⟨f,rfl⟩:∃f',f=f'+1:=⟨f - 1,by omega⟩
  have HSC:=aI hsc
  have HSE:=aI (Vm.scan_eq s.data.toList f i)
  clear hH hbd hsc
  by_cases hlt:i < n
  .have hix:i < s.size:=by omega
   have k0:(0:Int)<=(i:Int):=aa _
   have k1:(i:Int) < (n:Int):=by omega
   go_wp2_with fail
   go_loopg [6] (n - i) (λr a wr2=>∃m:Nat,i+m+r=n/\a=.int .i64 m/\wr2=wo/\∀j (hj:j < s.data.toList.length),i<=j->j < i+m->Vm.isTok s.data.toList[j]=true)
   case atStart=>exact ⟨0,by omega,rfl,rfl,λj _ h1 h2=>by omega⟩
   case round =>
    obtain ⟨m,hk2,rfl,rfl,hall⟩:=hrel
    obtain ⟨wo,rfl⟩:=aY wr
    have HB:=aI hall
    clear hall
    obtain ⟨e,he⟩:=aX (i+m)
    have hw:IntKind.i64.wrap ((i:Int)+(m:Int))=(e:Int):=by rw [wrapI (by unfold inI;omega)];omega
    rw [he] at HB
    have hem:e - i=m:=by omega
    have k2:(0:Int)<=(e:Int):=aa _
    have hen:e<=n:=by omega
    have hie:i<=e:=by omega
    by_cases htk:e < n/\∃h:e < s.size,Vm.isTok (s[e]'h)=true
    .obtain ⟨hlt2,hex,ht⟩:=htk
     have k3:(e:Int) < (n:Int):=by omega
     rcases tok_cases3 (s[e]'hex) with ⟨_,q1,q2⟩ | ⟨ht2,_⟩ | ⟨ht2,_⟩
     .have HT:=aI ht
      clear ht
      go_wp2_with fail
      go_roundg (gk - 1)
      case measure=>omega
      case rel =>
       refine ⟨m+1,by omega,by go_num,rfl,λj hj h1 h2=>?_⟩
       rcases aj j e with h' | h'
       .exact HB.out j hj h1 h'
       .obtain rfl:j=e:=by omega
        rw [Vm.str_get s j hex];exact HT.out
     .rw [ht] at ht2;cases ht2
     .rw [ht] at ht2;cases ht2
    .have HW:=aI (Vm.wordAt_is (l:=s.data.toList) hie (by rw [Vm.strLn];omega) HB.out (by
      rcases aj e n with h | h
      .refine .inr ⟨by rw [Vm.strLn];omega,?_⟩
       rw [Vm.str_get s e (by omega)]
       cases hb:Vm.isTok (s[e]'(by omega)) with
       | false=>rfl
       | true=>exact zU ⟨h,by omega,hb⟩ htk
      .exact .inl (by rw [Vm.strLn];omega)))
     have hwl:(Vm.wordAt s.data.toList i).length=e - i:=by rw [HW.out,zI,List.length_drop,Vm.strLn];omega
     have HWL:=aI hwl
     clear hwl
     have hx:(n<=e)∨(∃(h1:e < n) (h:e < s.size),decide (32 < ((s[e]'h).toNat:Int))=false)∨(∃(h1:e < n) (h:e < s.size),decide (32 < ((s[e]'h).toNat:Int))=true/\decide (((s[e]'h).toNat:Int)<=126)=false):=by
      rcases aj e n with h | h
      .have hes:e < s.size:=by omega
       rcases tok_cases3 (s[e]'hes) with ⟨q,_⟩ | ⟨_,q⟩ | ⟨_,q1,q2⟩
       .exact zU ⟨h,hes,q⟩ htk
       .exact .inr (.inl ⟨h,hes,q⟩)
       .exact .inr (.inr ⟨h,hes,q1,q2⟩)
      .exact .inl h
     clear htk
     by_cases hm0:m=0
     .subst hm0
      obtain rfl:i=e:=by omega
      rcases Vm.blank_cases (s[i]'hix) with ⟨hb,u1⟩ | ⟨hb,u1,u2⟩ | ⟨hb,u1,u2⟩
      .have HSC2:=aI (show (toks++(Vm.scan s.data.toList (f+1) (i+1)).1,(Vm.scan s.data.toList (f+1) (i+1)).2)=Vm.scan s.data.toList (n+1) 0 by rw [<-HSC.out,scan_blank (f:=f) (i:=i) (by rw [Vm.strLn];exact hix) (by rw [Vm.str_get s i hix];exact hb)])
       have hw1:IntKind.i64.wrap ((i:Int)+1)=((i+1:Nat):Int):=by rw [wrapI (by unfold inI;omega)];omega
       clear hb
       rcases hx with hx | ⟨_,hex,q1⟩ | ⟨_,hex,q1,q2⟩
       .exact zU hx (by omega)
       all_goals
        go_wp2_with fail
        go_roundg (gq - 1)
        case measure=>omega
        case rel=>exact ⟨i+1,f+1,_,_,by omega,by first | rfl | go_num,by omega,by omega,by omega,HBD.out,HSC2.out,T.out⟩
      .have HSC2:=aI (show (toks++(Vm.scan s.data.toList (f+1) (i+1)).1,(Vm.scan s.data.toList (f+1) (i+1)).2)=Vm.scan s.data.toList (n+1) 0 by rw [<-HSC.out,scan_blank (f:=f) (i:=i) (by rw [Vm.strLn];exact hix) (by rw [Vm.str_get s i hix];exact hb)])
       have hw1:IntKind.i64.wrap ((i:Int)+1)=((i+1:Nat):Int):=by rw [wrapI (by unfold inI;omega)];omega
       clear hb
       rcases hx with hx | ⟨_,hex,q1⟩ | ⟨_,hex,q1,q2⟩
       .exact zU hx (by omega)
       all_goals
        go_wp2_with fail
        go_roundg (gq - 1)
        case measure=>omega
        case rel=>exact ⟨i+1,f+1,_,_,by omega,by first | rfl | go_num,by omega,by omega,by omega,HBD.out,HSC2.out,T.out⟩
      .have hsk:=Vm.skipN_is (l:=s.data.toList) (a:=i) (e:=i) (ag _) (by rw [Vm.strLn];omega) (λj _ h1 h2=>by omega) (.inr ⟨by rw [Vm.strLn];exact hix,by rw [Vm.str_get s i hix];exact hb⟩)
       have HFIN:=aI (show Vm.scan s.data.toList (n+1) 0=(toks,i) by
        rw [<-HSC.out,HSE.out,hsk,if_pos (zT (by rw [HWL.out];omega))];simp)
       clear hb hsk
       rcases hx with hx | ⟨_,hex,q1⟩ | ⟨_,hex,q1,q2⟩
       .exact zU hx (by omega)
       all_goals
        go_wp2_with fail
        go_ret2
        exact pscan_end hG T.out HFIN.out hsn HBD.out hs (by omega)
     .have t9:decide (0 < (m:Int))=true:=decide_eq_true (by omega)
      have htoki:Vm.isTok (s[i]'hix)=true:=by rw [<-Vm.str_get s i hix (by rw [Vm.strLn];exact hix)];exact HB.out i _ (ag _) (by omega)
      have hbi:Vm.isBlank (s[i]'hix)=false:=by
       rcases Vm.blank_cases (s[i]'hix) with ⟨hb,u1⟩ | ⟨hb,u1,u2⟩ | ⟨hb,u1,u2⟩
       .exfalso;unfold Vm.isTok at htoki;simp at htoki u1;omega
       .exfalso;unfold Vm.isTok at htoki;simp at htoki u2;omega
       .exact hb
      have hsk:=Vm.skipN_is (l:=s.data.toList) (a:=i) (e:=i) (ag _) (by rw [Vm.strLn];omega) (λj _ h1 h2=>by omega) (.inr ⟨by rw [Vm.strLn];exact hix,by rw [Vm.str_get s i hix];exact hbi⟩)
      have HSC2:=aI (show (toks++[(i,e)]++(Vm.scan s.data.toList f e).1,(Vm.scan s.data.toList f e).2)=Vm.scan s.data.toList (n+1) 0 by
       rw [<-HSC.out,HSE.out,hsk,HWL.out,if_neg (λh=>by have:=HWL.out;rw [h] at this;simp at this;omega),show i+(e - i)=e by omega]
       simp)
      have HVS:=aI (sTokVals_snoc s toks (i,e))
      obtain ⟨na,hna⟩:=aX toks.length
      have HNA:=aI (show (toks++[(i,e)]).length=na+1 by rw [aK,hna];rfl)
      rw [hna] at T htl
      have HBD2:=aI (show ∀p∈toks++[(i,e)],p.1 < p.2/\p.2<=n from λp hp=>by
       rcases zE.1 hp with h | h
       .exact HBD.out p h
       .rw [zg.1 h];exact ⟨by show i < e;omega,by show e<=n;omega⟩)
      have j1:(i:Int)<=(e:Int):=by omega
      have j2:(e:Int)<=(n:Int):=by omega
      clear hna htoki hbi hsk
      rcases hx with hx | ⟨_,hex,q1⟩ | ⟨_,hex,q1,q2⟩
      .have k3:¬(e:Int) < (n:Int):=by omega
       go_wp2_with (at_builtin;obtain ⟨hi,hz0,hz1,hz2⟩:=HII.out;refine wpList_append_row (by rfl) _ _ 137 (by rfl) 153 i0 _ 2 24 Tryz.underlying137 hi hz0 hz1 hz2 rfl (by decide) (T.out.below (aP _ _)) (by rfl) _ _ 1 1 [.string (s.extract i e),.int .i64 (i:Int)] (by rfl) (reads_blk (zj _ _ _) rfl) (by simp [Value.oneCell']) (by unfold maxLen;omega) (by omega) ?_;intro v5 w5 M5 h5 _;rw [HVS.out,<-HNA.out] at h5;replace T:=aI h5;clear h5 hi hz0 hz1 hz2)
       go_roundg (gq - (e - i))
       case measure=>omega
       case rel=>exact ⟨e,f,_,_,by omega,by first | rfl | go_num,by omega,by omega,by rw [HNA.out];omega,HBD2.out,HSC2.out,T.out⟩
      all_goals
       have k3:(e:Int) < (n:Int):=by omega
       go_wp2_with (at_builtin;obtain ⟨hi,hz0,hz1,hz2⟩:=HII.out;refine wpList_append_row (by rfl) _ _ 137 (by rfl) 153 i0 _ 2 24 Tryz.underlying137 hi hz0 hz1 hz2 rfl (by decide) (T.out.below (aP _ _)) (by rfl) _ _ 1 1 [.string (s.extract i e),.int .i64 (i:Int)] (by rfl) (reads_blk (zj _ _ _) rfl) (by simp [Value.oneCell']) (by unfold maxLen;omega) (by omega) ?_;intro v5 w5 M5 h5 _;rw [HVS.out,<-HNA.out] at h5;replace T:=aI h5;clear h5 hi hz0 hz1 hz2)
       go_roundg (gq - (e - i))
       case measure=>omega
       case rel=>exact ⟨e,f,_,_,by omega,by first | rfl | go_num,by omega,by omega,by rw [HNA.out];omega,HBD2.out,HSC2.out,T.out⟩
  .have hii:i=n:=by omega
   have HFIN:=aI (show Vm.scan s.data.toList (n+1) 0=(toks,n) by
    have h:s.data.toList.length=n:=by rw [Vm.strLn,hsn]
    rw [<-HSC.out,hii,<-h,scan_len];simp)
   subst hii
   go_wp2_with fail
   go_ret2
   exact pscan_end hG T.out HFIN.out hsn HBD.out hs (by omega)
section
variable {w:World} {g:Nat} {st:Sx.St} {M:List Nat} {bx:List Box} {rs:List Rw} {L:List (List Nat->World->Prop)} {W:World}
theorem isK_any (h:PH (pkP w g) st M bx rs L W):Calls Tryz.prog 104 #[.string ⟨#[107,105,110,100]⟩] W λe W'=>∃N,e=.returned (.func (.func 142) #[] #[.pointer (some ⟨N,0,none⟩)])/\PH (pkP w g) st M bx rs (IsB N Sx.sKind::L) W':=is_any Sx.sKind h
theorem isL_any (h:PH (pkP w g) st M bx rs L W):Calls Tryz.prog 104 #[.string ⟨#[108,105,102,101]⟩] W λe W'=>∃N,e=.returned (.func (.func 142) #[] #[.pointer (some ⟨N,0,none⟩)])/\PH (pkP w g) st M bx rs (IsB N Sx.sLife::L) W':=is_any Sx.sLife h
theorem isR_any (h:PH (pkP w g) st M bx rs L W):Calls Tryz.prog 104 #[.string ⟨#[114,117,108,101]⟩] W λe W'=>∃N,e=.returned (.func (.func 142) #[] #[.pointer (some ⟨N,0,none⟩)])/\PH (pkP w g) st M bx rs (IsB N Sx.sRule::L) W':=is_any Sx.sRule h
theorem sK_any (he:SEnv w) {N:Nat} (h:PH (pkP w g) st M bx rs (IsB N Sx.sKind::L) W):Calls Tryz.prog 103 #[.pointer (some ⟨g,0,none⟩),.func (.func 142) #[] #[.pointer (some ⟨N,0,none⟩)],.func (.func 105) #[.pointer (some ⟨g,0,none⟩)] #[]] W (RdL (pkP w g) (λl=>Sx.many (λt=>t == Sx.sKind) Sx.kind l.length [] l) st bx rs L) :=
 (someK_any he (by decide) (.head _) h).mono λ_ _ ⟨l,A,c,st',M',h1,h2,h3,h4,h5,h6⟩=>⟨l,A,c,st',M',h1,h2,h3,h4,h5,h6.less λP hP=>by
  rcases aL hP with rfl | hP
  .exact .head _
  .exact .tail _ (.tail _ hP)⟩
theorem sL_any (he:SEnv w) {N:Nat} (h:PH (pkP w g) st M bx rs (IsB N Sx.sLife::L) W):Calls Tryz.prog 106 #[.pointer (some ⟨g,0,none⟩),.func (.func 142) #[] #[.pointer (some ⟨N,0,none⟩)],.func (.func 107) #[.pointer (some ⟨g,0,none⟩)] #[]] W (RdL (pkP w g) (λl=>Sx.many (λt=>t == Sx.sLife) Sx.life l.length [] l) st bx rs L) :=
 (someL_any he (by decide) (.head _) h).mono λ_ _ ⟨l,A,c,st',M',h1,h2,h3,h4,h5,h6⟩=>⟨l,A,c,st',M',h1,h2,h3,h4,h5,h6.less λP hP=>by
  rcases aL hP with rfl | hP
  .exact .head _
  .exact .tail _ (.tail _ hP)⟩
theorem sR_any (he:SEnv w) {N:Nat} (h:PH (pkP w g) st M bx rs (IsB N Sx.sRule::L) W):Calls Tryz.prog 108 #[.pointer (some ⟨g,0,none⟩),.func (.func 142) #[] #[.pointer (some ⟨N,0,none⟩)],.func (.func 109) #[.pointer (some ⟨g,0,none⟩)] #[]] W (RdL (pkP w g) (λl=>Sx.many (λt=>t == Sx.sRule) Sx.rule l.length [] l) st bx rs L) :=
 (someR_any he (by decide) (.head _) h).mono λ_ _ ⟨l,A,c,st',M',h1,h2,h3,h4,h5,h6⟩=>⟨l,A,c,st',M',h1,h2,h3,h4,h5,h6.less λP hP=>by
  rcases aL hP with rfl | hP
  .exact .head _
  .exact .tail _ (.tail _ hP)⟩
end
theorem Held.put0 {w W:World} {G M:List Nat} {L:List (List Nat->World->Prop)} {N:Nat} {t:TypeId} {cs:Array Value} {bx2:List Box} (h:Held w G M ((N,t,cs)::bx2) L W) (i:Nat) (u:Value):Held w G M ((N,t,cs.setIfInBounds i u)::bx2) L (W.setCell ⟨N,i,none⟩ u):=Held.set_ (bx1:=[]) h i u
theorem Sx.nx_fin {α:Type} {p:List Sx.Tok->Sx.Res α} {l0 l:List Sx.Tok} {f:Bool} {x:α} (h:Sx.Nx p (l0,false) x (l,f)):(f=false->p l0=.ok x l)/\(f=true->p l0=.bad l):=by
 rw [Sx.nx_iff] at h
 cases hp:p l0 with
 | ok a m =>
  rw [hp] at h
  obtain ⟨h0,h⟩:=h
  injection h with h1 h2
  subst h0 h1 h2
  exact ⟨λ_=>rfl,λh=>by cases h⟩
 | bad m =>
  rw [hp] at h
  injection h with h1 h2
  subst h1 h2
  exact ⟨λh=>(by cases h),λ_=>rfl⟩
def PParseP (r:Sch × Int × Int) (w:World) (e:Ending) (w':World):Prop:=∃us,e=.returned (.tuple #[.agg us.toArray,.int .i64 r.2.1,.int .i64 r.2.2])/\Mem.rep [] w' r.1 us/\Below w.heap.size w w'
theorem noSch_rep (w:World):Mem.rep [] w Sx.noSch [.int .i64 0,.slice none 0 0,.slice none 0 0,.slice none 0 0] :=
 ⟨[_],_,rfl,⟨rfl,by constructor <;> decide⟩,[_],_,rfl,⟨none,0,rfl,ag _,by decide,.nil⟩,[_],_,rfl,⟨none,0,rfl,ag _,by decide,.nil⟩,⟨none,0,rfl,ag _,by decide,.nil⟩⟩
theorem pparse_any (s:ByteArray) (w:World) (hs:s.size<=9223372036854775807) (he:SEnv w):Calls Tryz.prog 55 #[.string s] w (PParseP (Sx.parse s.data.toList) w):=by
 obtain ⟨n,hn⟩:=aX s.size
 have hln:s.data.toList.length=n:=by rw [Vm.strLn,hn]
 have hsn:s.size=n:=hn
 by_cases hl:8192 < n
 .have k1:(8192:Int) < (n:Int):=by omega
  have hp:Sx.parse s.data.toList=(Sx.noSch,8192,4):=by unfold Sx.parse;rw [hln,if_pos hl]
  rw [hp]
  obtain ⟨Nr,hNr⟩:=aX w.heap.size
  have T:=aI ((held0 w [] (λ_ h=>by cases h)).new #[.int .i64 0,.slice none 0 0,.slice none 0 0,.slice none 0 0] 27 hNr)
  have HNr:=aI hNr
  clear hp hln hs he hn hNr
  go_enter Tryz.func55,Tryz.ntmps55
  go_upto_region 2 with fail
  rw [HNr.out]
  generalize w.alloc (.cells #[.int .i64 0,.slice none 0 0,.slice none 0 0,.slice none 0 0] 27)=W1 at *
  have B:=T.out.box (.head _);obtain ⟨z0,z1,z2,z3⟩:=aN4 B.cell;obtain ⟨f0,f1,f2,f3⟩:=aN4 B.frozen;simp at z0 z1 z2 z3;dsimp only at f0 f1 f2 f3;clear B
  have T2:=aI (show Held w [] [Nr] [(Nr,27,#[.int .i64 0,.slice none 0 0,.slice none 0 0,.slice none 0 0])] [] _ from (((T.out.put0 0 (.int .i64 0)).put0 1 (.slice none 0 0)).put0 2 (.slice none 0 0)).put0 3 (.slice none 0 0))
  go_wp2_with fail
  clear z0 z1 z2 z3 f0 f1 f2 f3
  generalize (((W1.setCell ⟨Nr,0,none⟩ (.int .i64 0)).setCell ⟨Nr,1,none⟩ (.slice none 0 0)).setCell ⟨Nr,2,none⟩ (.slice none 0 0)).setCell ⟨Nr,3,none⟩ (.slice none 0 0)=W2 at *
  have B:=T2.out.box (.head _);obtain ⟨y0,y1,y2,y3⟩:=aN4 B.cell
  simp at y0 y1 y2 y3
  refine zi (v:=.tuple #[.agg #[.int .i64 0,.slice none 0 0,.slice none 0 0,.slice none 0 0],.int .i64 8192,.int .i64 4]) ?_ rfl ?_
  .simp [results,Tryz.results55,go_sem,y0,y1,y2,y3]
  .exact ⟨[.int .i64 0,.slice none 0 0,.slice none 0 0,.slice none 0 0],rfl,noSch_rep _,T2.out.bl⟩
 .have k1:¬(8192:Int) < (n:Int):=by omega
  obtain ⟨Nr,hNr⟩:=aX w.heap.size
  have CS:=aI (λW (hW:Nr < W.heap.size)=>pscanG_any [Nr] s W (λg hg=>by rw [zg] at hg;subst hg;exact hW) (by omega))
  have T:=aI ((HR.start (held0 w [] (λ_ h=>by cases h))).new #[.int .i64 0,.slice none 0 0,.slice none 0 0,.slice none 0 0] 27 hNr)
  have HE:=aI he
  have HNr:=aI hNr
  have HP1:=λh:Sx.schema (Sx.toks s.data.toList)=.bad []=>show Sx.parse s.data.toList=(Sx.noSch,(Sx.stopAt s.data.toList:Int),2) by unfold Sx.parse;rw [hln,if_neg hl,h]
  have HP2:=λt l (h:Sx.schema (Sx.toks s.data.toList)=.bad (t::l))=>show Sx.parse s.data.toList=(Sx.noSch,(t.2:Int),2) by unfold Sx.parse;rw [hln,if_neg hl,h]
  have HP3:=λx t l (h:Sx.schema (Sx.toks s.data.toList)=.ok x (t::l))=>show Sx.parse s.data.toList=(Sx.noSch,(t.2:Int),2) by unfold Sx.parse;rw [hln,if_neg hl,h]
  have HP4:=λx (h:Sx.schema (Sx.toks s.data.toList)=.ok x []) (h2:Sx.stopAt s.data.toList < n)=>show Sx.parse s.data.toList=(Sx.noSch,(Sx.stopAt s.data.toList:Int),2) by unfold Sx.parse;rw [hln,if_neg hl,h];exact if_pos h2
  have HP5:=λx (h:Sx.schema (Sx.toks s.data.toList)=.ok x []) (h2:¬Sx.stopAt s.data.toList < n) (h3:Sx.valid x=0)=>show Sx.parse s.data.toList=(x,0,0) by unfold Sx.parse;rw [hln,if_neg hl,h];exact (if_neg h2).trans (if_pos h3)
  have HP6:=λx (h:Sx.schema (Sx.toks s.data.toList)=.ok x []) (h2:¬Sx.stopAt s.data.toList < n) (h3:¬Sx.valid x=0)=>show Sx.parse s.data.toList=(Sx.noSch,0,4) by unfold Sx.parse;rw [hln,if_neg hl,h];exact (if_neg h2).trans (if_neg h3)
  clear hs he hNr hln
  generalize Sx.parse s.data.toList=pr at *
  obtain ⟨tks,htk⟩:=aX (Sx.toks s.data.toList)
  obtain ⟨sat,hsat⟩:=aX (Sx.stopAt s.data.toList)
  have CS2:=aI (λW (hW:Nr < W.heap.size)=>show Calls Tryz.prog 100 #[.string s] W λe w'=>∃A c,e=.returned (.tuple #[.slice A tks.length c,.int .i64 (sat:Nat)])/\tks.length<=c/\c<=9223372036854775807/\SlAt [Nr] w' A (tks.map tokP)/\TokOk tks/\Below W.heap.size W w' from by rw [<-htk,<-hsat];exact CS.out W hW)
  rw [htk] at HP1 HP2 HP3 HP4 HP5 HP6
  rw [hsat] at HP1 HP4 HP5 HP6
  replace HP1:=aI HP1;replace HP2:=aI HP2;replace HP3:=aI HP3;replace HP4:=aI HP4;replace HP5:=aI HP5;replace HP6:=aI HP6
  clear CS htk hsat
  go_enter Tryz.func55,Tryz.ntmps55
  go_upto_region 1 with fail
  rw [HNr.out]
  generalize w.alloc (.cells #[.int .i64 0,.slice none 0 0,.slice none 0 0,.slice none 0 0] 27)=W1 at *
  have hlt:=T.out.h.mb Nr (.head _)
  go_upto_region 4 with (go_at_call 100;(with_reducible refine (CS2.out _ hlt).mono ?_);rintro e w2 ⟨A,c,rfl,d1,d2,d3,d4,hb2⟩;replace T:=aI (T.out.below hb2);have D:=aI (show tks.length<=c/\c<=9223372036854775807/\SlAt [Nr] w2 A (tks.map tokP)/\TokOk tks from ⟨d1,d2,d3,d4⟩);clear hb2 d1 d2 d3 d4)
  obtain ⟨Np,hNp⟩:=aX w2.heap.size
  have P:=aI (show PH (pkP w Np) (tks,false) (Np::[Nr]) [(Nr,27,#[.int .i64 0,.slice none 0 0,.slice none 0 0,.slice none 0 0])] [] [] _ from ⟨_,(T.out.new #[.slice A tks.length c,.bool false] 142 hNp).add (pc_keeps (tks,false) _) ⟨A,c,rfl,D.out.1,D.out.2.1,(D.out.2.2.1.sub (λg hg=>by
   rcases aL hg with rfl | hg
   .exact .inr (Nat.le_of_eq hNp)
   .exact .inl hg)).keep (za (aP _ _)),D.out.2.2.2⟩⟩)
  have HTL:=aI D.out.2.2.2.1
  clear D T hlt
  go_upto_region 5 with fail
  generalize w2.alloc (.cells #[.slice A tks.length c,.bool false] 142)=w3 at *
  clear hNp
  go_upto_region 6 with (go_at_call 101;(with_reducible refine (needSchema_any P.out).mono ?_);rintro e w4 ⟨st1,rfl,x1,h1⟩;replace P:=aI h1;have X1:=aI x1;clear h1 x1)
  go_upto_region 7 with (go_at_call 102;(with_reducible refine (num_any' HE.out P.out).mono ?_);rintro e w5 ⟨v,st2,rfl,i2,x2,h2⟩;replace P:=aI h2;have X2:=aI x2;have I2:=aI i2;clear h2 x2 i2)
  obtain ⟨Nx,hNx⟩:=aX w5.heap.size
  replace P:=aI (P.out.new #[.int .i64 v,.slice none 0 0,.slice none 0 0,.slice none 0 0] 27 hNx)
  rw [hNx]
  clear hNx
  generalize w5.alloc (.cells #[.int .i64 v,.slice none 0 0,.slice none 0 0,.slice none 0 0] 27)=w6 at *
  have B:=P.out.box (.head _);obtain ⟨z0,z1,z2,z3⟩:=aN4 B.cell;obtain ⟨f0,f1,f2,f3⟩:=aN4 B.frozen;simp at z0 z1 z2 z3;dsimp only at f0 f1 f2 f3;clear B
  go_upto_region 8 with (first | (go_at_call 104;(with_reducible refine (isK_any P.out).mono ?_);rintro e w6 ⟨Ni,rfl,h6⟩;replace P:=aI h6;clear h6) | (go_at_call 103;(with_reducible refine (sK_any HE.out P.out).mono ?_);rintro e w7 ⟨ks,A3,c3,st3,M3,rfl,d1,d2,d3,x3,h7⟩;replace P:=aI h7;have X3:=aI x3;have D3:=aI (show ks.length<=c3/\c3<=9223372036854775807 from ⟨d1,d2⟩);clear h7 x3 d1 d2 d3 z0 z1 z2 z3 f0 f1 f2 f3;have B:=P.out.box (.head _);obtain ⟨z0,z1,z2,z3⟩:=aN4 B.cell;obtain ⟨f0,f1,f2,f3⟩:=aN4 B.frozen;simp at z0 z1 z2 z3;dsimp only at f0 f1 f2 f3;clear B))
  replace P:=aI (P.out.set0 1 (.slice A3 ks.length c3))
  replace P:=aI (show PH (pkP w Np) st3 M3 [(Nx,27,#[.int .i64 v,.slice A3 ks.length c3,.slice none 0 0,.slice none 0 0]),(Nr,27,#[.int .i64 0,.slice none 0 0,.slice none 0 0,.slice none 0 0])] [] _ _ from P.out)
  clear z0 z1 z2 z3 f0 f1 f2 f3
  generalize w7.setCell ⟨Nx,1,none⟩ (.slice A3 ks.length c3)=w8 at *
  have B:=P.out.box (.head _);obtain ⟨z0,z1,z2,z3⟩:=aN4 B.cell;obtain ⟨f0,f1,f2,f3⟩:=aN4 B.frozen;simp at z0 z1 z2 z3;dsimp only at f0 f1 f2 f3;clear B
  go_upto_region 9 with (first | (go_at_call 104;(with_reducible refine (isL_any P.out).mono ?_);rintro e w6 ⟨Ni,rfl,h6⟩;replace P:=aI h6;clear h6) | (go_at_call 106;(with_reducible refine (sL_any HE.out P.out).mono ?_);rintro e w7 ⟨ls,A4,c4,st4,M4,rfl,d1,d2,d3,x4,h7⟩;replace P:=aI h7;have X4:=aI x4;have D4:=aI (show ls.length<=c4/\c4<=9223372036854775807 from ⟨d1,d2⟩);clear h7 x4 d1 d2 d3 z0 z1 z2 z3 f0 f1 f2 f3;have B:=P.out.box (.head _);obtain ⟨z0,z1,z2,z3⟩:=aN4 B.cell;obtain ⟨f0,f1,f2,f3⟩:=aN4 B.frozen;simp at z0 z1 z2 z3;dsimp only at f0 f1 f2 f3;clear B))
  replace P:=aI (P.out.set0 2 (.slice A4 ls.length c4))
  replace P:=aI (show PH (pkP w Np) st4 M4 [(Nx,27,#[.int .i64 v,.slice A3 ks.length c3,.slice A4 ls.length c4,.slice none 0 0]),(Nr,27,#[.int .i64 0,.slice none 0 0,.slice none 0 0,.slice none 0 0])] [] _ _ from P.out)
  clear z0 z1 z2 z3 f0 f1 f2 f3
  generalize w7.setCell ⟨Nx,2,none⟩ (.slice A4 ls.length c4)=w8 at *
  have B:=P.out.box (.head _);obtain ⟨z0,z1,z2,z3⟩:=aN4 B.cell;obtain ⟨f0,f1,f2,f3⟩:=aN4 B.frozen;simp at z0 z1 z2 z3;dsimp only at f0 f1 f2 f3;clear B
  go_upto_region 10 with (first | (go_at_call 104;(with_reducible refine (isR_any P.out).mono ?_);rintro e w6 ⟨Ni,rfl,h6⟩;replace P:=aI h6;clear h6) | (go_at_call 108;(with_reducible refine (sR_any HE.out P.out).mono ?_);rintro e w7 ⟨rs,A5,c5,st5,M5,rfl,d1,d2,d3,x5,h7⟩;replace P:=aI h7;have X5:=aI x5;have D5:=aI (show rs.length<=c5/\c5<=9223372036854775807 from ⟨d1,d2⟩);clear h7 x5 d1 d2 d3 z0 z1 z2 z3 f0 f1 f2 f3;have B:=P.out.box (.head _);obtain ⟨z0,z1,z2,z3⟩:=aN4 B.cell;obtain ⟨f0,f1,f2,f3⟩:=aN4 B.frozen;simp at z0 z1 z2 z3;dsimp only at f0 f1 f2 f3;clear B))
  replace P:=aI (P.out.set0 3 (.slice A5 rs.length c5))
  replace P:=aI (show PH (pkP w Np) st5 M5 [(Nx,27,#[.int .i64 v,.slice A3 ks.length c3,.slice A4 ls.length c4,.slice A5 rs.length c5]),(Nr,27,#[.int .i64 0,.slice none 0 0,.slice none 0 0,.slice none 0 0])] [] _ _ from P.out)
  clear z0 z1 z2 z3 f0 f1 f2 f3
  generalize w7.setCell ⟨Nx,3,none⟩ (.slice A5 rs.length c5)=w8 at *
  have B:=P.out.box (.head _);obtain ⟨z0,z1,z2,z3⟩:=aN4 B.cell;obtain ⟨f0,f1,f2,f3⟩:=aN4 B.frozen;simp at z0 z1 z2 z3;dsimp only at f0 f1 f2 f3;clear B
  have XS:=aI (show Sx.Nx Sx.schema (tks,false) (v,ks,ls,rs) st5 from Sx.nx_bind X1.out (Sx.nx_bind X2.out (Sx.nx_bind X3.out (Sx.nx_bind X4.out (Sx.nx_bind X5.out (Sx.nx_ret _ _))))))
  clear X1 X2 X3 X4 X5
  have C:=P.out.box (.tail _ (.head _));obtain ⟨y0,y1,y2,y3⟩:=aN4 C.cell;obtain ⟨g0,g1,g2,g3⟩:=aN4 C.frozen
  simp at y0 y1 y2 y3
  dsimp only at g0 g1 g2 g3
  clear C
  have PZ:=aI (show PH (pkP w Np) st5 M5 [(Nr,27,#[.int .i64 0,.slice none 0 0,.slice none 0 0,.slice none 0 0]),(Nx,27,#[.int .i64 v,.slice A3 ks.length c3,.slice A4 ls.length c4,.slice A5 rs.length c5])] [] _ _ from (((P.out.bswap.set0 0 (.int .i64 0)).set0 1 (.slice none 0 0)).set0 2 (.slice none 0 0)).set0 3 (.slice none 0 0))
  obtain ⟨cs,hb,A8,c8,rfl,hc1,hc2,hsl,hok⟩:=P.out.pbox
  obtain ⟨l,f⟩:=st5
  obtain ⟨p0,p1⟩:=aN2 hb.cell
  simp at p0 p1
  obtain ⟨xs1,xs2⟩:=Sx.nx_fin XS.out
  clear hb
  cases l with
  | cons t r =>
   have HQ:=aI (show pr=(Sx.noSch,(t.2:Int),2) by
    cases f
    .exact HP3.out _ _ _ (xs1 rfl)
    .exact HP2.out _ _ (xs2 rfl))
   obtain ⟨b,o,rfl,hbM,_,d1⟩:=tokP_at hsl
   obtain ⟨cs9,H9⟩:=P.out.it
   have hNrM:=(H9.h.bs _ (.tail _ (.tail _ (.head _)))).1
   have hnd:=H9.h.nd
   simp only [List.map_cons,List.map_nil,List.nodup_cons,zB,zr,zQ,not_or] at hnd
   have hne1:Np≠Nr:=hnd.1.2
   have hne2:b≠Nr:=λe=>hbM (e ▸ hNrM)
   have hne3:Nr≠Np:=λe=>hne1 e.symm
   have hne4:Nr≠b:=λe=>hne2 e.symm
   clear hbM H9 hNrM hnd
   obtain ⟨m,hm⟩:=aX ((t::r).length)
   have hm0:0 < m:=by rw [<-hm,zm];omega
   have z9:(0:Int) < (m:Int):=by omega
   have p0:w8.cell? ⟨Np,0,none⟩=some (.slice (some ⟨b,o,none⟩) m c8):=by rw [<-hm];simpa using p0
   clear hsl hok hm hc1 xs1 xs2 HP1 HP2 HP3 HP4 HP5 HP6 CS2
   go_wp2_with fail
   go_region
   go_wp2_with fail
   clear z0 z1 z2 z3 f0 f1 f2 f3 y0 y1 y2 y3 g0 g1 g2 g3 p0 p1
   have PZ2:=aI (PZ.out.drew)
   generalize (((w8.setCell ⟨Nr,0,none⟩ (.int .i64 0)).setCell ⟨Nr,1,none⟩ (.slice none 0 0)).setCell ⟨Nr,2,none⟩ (.slice none 0 0)).setCell ⟨Nr,3,none⟩ (.slice none 0 0)=w9 at *
   have B:=PZ2.out.box (.head _);obtain ⟨y0,y1,y2,y3⟩:=aN4 B.cell
   simp at y0 y1 y2 y3
   refine zi (v:=.tuple #[.agg #[.int .i64 0,.slice none 0 0,.slice none 0 0,.slice none 0 0],.int .i64 (t.2:Int),.int .i64 2]) ?_ rfl ?_
   .simp [results,Tryz.results55,go_sem,y0,y1,y2,y3]
   .exact ⟨[.int .i64 0,.slice none 0 0,.slice none 0 0,.slice none 0 0],by rw [HQ.out],by rw [HQ.out];exact noSch_rep _,PZ2.out.bl⟩
  | nil =>
   have p0:w8.cell? ⟨Np,0,none⟩=some (.slice A8 0 c8):=by simpa using p0
   clear hsl hok hc1
   cases f
   .have hsc:=xs1 rfl
    by_cases hsat:sat < n
    .have HQ:=aI (HP4.out _ hsc hsat)
     have z9:(sat:Int) < (n:Int):=by omega
     clear hsc xs1 xs2 HP1 HP2 HP3 HP4 HP5 HP6 CS2
     go_wp2_with fail
     clear z0 z1 z2 z3 f0 f1 f2 f3 y0 y1 y2 y3 g0 g1 g2 g3 p0 p1
     have PZ2:=aI (PZ.out)
     generalize (((w8.setCell ⟨Nr,0,none⟩ (.int .i64 0)).setCell ⟨Nr,1,none⟩ (.slice none 0 0)).setCell ⟨Nr,2,none⟩ (.slice none 0 0)).setCell ⟨Nr,3,none⟩ (.slice none 0 0)=w9 at *
     have B:=PZ2.out.box (.head _);obtain ⟨y0,y1,y2,y3⟩:=aN4 B.cell
     simp at y0 y1 y2 y3
     refine zi (v:=.tuple #[.agg #[.int .i64 0,.slice none 0 0,.slice none 0 0,.slice none 0 0],.int .i64 (sat:Int),.int .i64 2]) ?_ rfl ?_
     .simp [results,Tryz.results55,go_sem,y0,y1,y2,y3]
     .exact ⟨[.int .i64 0,.slice none 0 0,.slice none 0 0,.slice none 0 0],by rw [HQ.out],by rw [HQ.out];exact noSch_rep _,PZ2.out.bl⟩
    .have z9:(n:Int)<=(sat:Int):=by omega
     have HXR:=aI (show Mem.rep M5 w8 ((v,ks,ls,rs):Sch) [.int .i64 v,.slice A3 ks.length c3,.slice A4 ls.length c4,.slice A5 rs.length c5] from ⟨[_],_,rfl,⟨rfl,I2.out⟩,[_],_,rfl,⟨A3,c3,rfl,D3.out.1,D3.out.2,P.out.fact (.tail _ (.tail _ (.head _)))⟩,[_],_,rfl,⟨A4,c4,rfl,D4.out.1,D4.out.2,P.out.fact (.tail _ (.head _))⟩,⟨A5,c5,rfl,D5.out.1,D5.out.2,P.out.fact (.head _)⟩⟩)
     have CV:=aI (show Calls Tryz.prog 7 #[.agg #[.int .i64 v,.slice A3 ks.length c3,.slice A4 ls.length c4,.slice A5 rs.length c5]] w8 λe w'=>e=.returned (.int .i64 (Sx.valid (v,ks,ls,rs)))/\Below w8.heap.size w8 w' from valid_any (v,ks,ls,rs) _ w8 (Mem.sub HXR.out (λg hg=>by cases hg)) (Sx.schema_sz HTL.out hsc) (HE.out.to P.out.bl))
     replace P:=aI (P.out.add (keeps_rep ((v,ks,ls,rs):Sch) _) HXR.out)
     have HQ5:=aI (HP5.out _ hsc hsat)
     have HQ6:=aI (HP6.out _ hsc hsat)
     obtain ⟨vv,hvv⟩:=aX (Sx.valid (v,ks,ls,rs))
     rw [hvv] at CV HQ5 HQ6
     clear hsc hvv xs1 xs2 HP1 HP2 HP3 HP4 HP5 HP6 CS2 PZ HXR
     by_cases hv0:vv=0
     .subst hv0
      have HQ:=aI (HQ5.out rfl)
      clear HQ5 HQ6
      go_upto_region 16 with (go_at_call 7;(with_reducible refine CV.out.mono ?_);rintro e wv ⟨rfl,hb2⟩;replace P:=aI (P.out.below hb2);clear hb2;clear z0 z1 z2 z3 f0 f1 f2 f3 y0 y1 y2 y3 g0 g1 g2 g3;have B:=P.out.box (.head _);obtain ⟨z0,z1,z2,z3⟩:=aN4 B.cell;obtain ⟨f0,f1,f2,f3⟩:=aN4 B.frozen;simp at z0 z1 z2 z3;dsimp only at f0 f1 f2 f3;clear B)
      have C:=P.out.box (.tail _ (.head _));obtain ⟨y0,y1,y2,y3⟩:=aN4 C.cell;obtain ⟨g0,g1,g2,g3⟩:=aN4 C.frozen
      simp at y0 y1 y2 y3
      dsimp only at g0 g1 g2 g3
      clear C
      have PZ:=aI (show PH (pkP w Np) ([],false) M5 [(Nr,27,#[.int .i64 v,.slice A3 ks.length c3,.slice A4 ls.length c4,.slice A5 rs.length c5]),(Nx,27,#[.int .i64 v,.slice A3 ks.length c3,.slice A4 ls.length c4,.slice A5 rs.length c5])] [] _ _ from (((P.out.bswap.set0 0 (.int .i64 v)).set0 1 (.slice A3 ks.length c3)).set0 2 (.slice A4 ls.length c4)).set0 3 (.slice A5 rs.length c5))
      go_wp2_with fail
      clear z0 z1 z2 z3 f0 f1 f2 f3 y0 y1 y2 y3 g0 g1 g2 g3
      generalize (((wv.setCell ⟨Nr,0,none⟩ (.int .i64 v)).setCell ⟨Nr,1,none⟩ (.slice A3 ks.length c3)).setCell ⟨Nr,2,none⟩ (.slice A4 ls.length c4)).setCell ⟨Nr,3,none⟩ (.slice A5 rs.length c5)=w9 at *
      have B:=PZ.out.box (.head _);obtain ⟨y0,y1,y2,y3⟩:=aN4 B.cell
      simp at y0 y1 y2 y3
      refine zi (v:=.tuple #[.agg #[.int .i64 v,.slice A3 ks.length c3,.slice A4 ls.length c4,.slice A5 rs.length c5],.int .i64 0,.int .i64 0]) ?_ rfl ?_
      .simp [results,Tryz.results55,go_sem,y0,y1,y2,y3]
      .exact ⟨[.int .i64 v,.slice A3 ks.length c3,.slice A4 ls.length c4,.slice A5 rs.length c5],by rw [HQ.out],by rw [HQ.out];exact Mem.sub (PZ.out.fact (.head _)) (λg hg=>by cases hg),PZ.out.bl⟩
     .have HQ:=aI (HQ6.out hv0)
      have q1:(vv == 0)=false:=by simpa using hv0
      have q2:(vv != 0)=true:=by simpa using hv0
      clear HQ5 HQ6 hv0
      go_upto_region 15 with (go_at_call 7;(with_reducible refine CV.out.mono ?_);rintro e wv ⟨rfl,hb2⟩;replace P:=aI (P.out.below hb2);clear hb2;clear z0 z1 z2 z3 f0 f1 f2 f3 y0 y1 y2 y3 g0 g1 g2 g3;have B:=P.out.box (.head _);obtain ⟨z0,z1,z2,z3⟩:=aN4 B.cell;obtain ⟨f0,f1,f2,f3⟩:=aN4 B.frozen;simp at z0 z1 z2 z3;dsimp only at f0 f1 f2 f3;clear B)
      have C:=P.out.box (.tail _ (.head _));obtain ⟨y0,y1,y2,y3⟩:=aN4 C.cell;obtain ⟨g0,g1,g2,g3⟩:=aN4 C.frozen
      simp at y0 y1 y2 y3
      dsimp only at g0 g1 g2 g3
      clear C
      have PZ2:=aI (show PH (pkP w Np) ([],false) M5 [(Nr,27,#[.int .i64 0,.slice none 0 0,.slice none 0 0,.slice none 0 0]),(Nx,27,#[.int .i64 v,.slice A3 ks.length c3,.slice A4 ls.length c4,.slice A5 rs.length c5])] [] _ _ from (((P.out.bswap.set0 0 (.int .i64 0)).set0 1 (.slice none 0 0)).set0 2 (.slice none 0 0)).set0 3 (.slice none 0 0))
      go_wp2_with fail
      clear z0 z1 z2 z3 f0 f1 f2 f3 y0 y1 y2 y3 g0 g1 g2 g3
      generalize (((wv.setCell ⟨Nr,0,none⟩ (.int .i64 0)).setCell ⟨Nr,1,none⟩ (.slice none 0 0)).setCell ⟨Nr,2,none⟩ (.slice none 0 0)).setCell ⟨Nr,3,none⟩ (.slice none 0 0)=w9 at *
      have B:=PZ2.out.box (.head _);obtain ⟨y0,y1,y2,y3⟩:=aN4 B.cell
      simp at y0 y1 y2 y3
      refine zi (v:=.tuple #[.agg #[.int .i64 0,.slice none 0 0,.slice none 0 0,.slice none 0 0],.int .i64 0,.int .i64 4]) ?_ rfl ?_
      .simp [results,Tryz.results55,go_sem,y0,y1,y2,y3]
      .exact ⟨[.int .i64 0,.slice none 0 0,.slice none 0 0,.slice none 0 0],by rw [HQ.out],by rw [HQ.out];exact noSch_rep _,PZ2.out.bl⟩
   .have HQ:=aI (HP1.out (xs2 rfl))
    clear xs1 xs2 HP1 HP2 HP3 HP4 HP5 HP6 CS2
    go_wp2_with fail
    clear z0 z1 z2 z3 f0 f1 f2 f3 y0 y1 y2 y3 g0 g1 g2 g3 p0 p1
    have PZ2:=aI (PZ.out)
    generalize (((w8.setCell ⟨Nr,0,none⟩ (.int .i64 0)).setCell ⟨Nr,1,none⟩ (.slice none 0 0)).setCell ⟨Nr,2,none⟩ (.slice none 0 0)).setCell ⟨Nr,3,none⟩ (.slice none 0 0)=w9 at *
    have B:=PZ2.out.box (.head _);obtain ⟨y0,y1,y2,y3⟩:=aN4 B.cell
    simp at y0 y1 y2 y3
    refine zi (v:=.tuple #[.agg #[.int .i64 0,.slice none 0 0,.slice none 0 0,.slice none 0 0],.int .i64 (sat:Int),.int .i64 2]) ?_ rfl ?_
    .simp [results,Tryz.results55,go_sem,y0,y1,y2,y3]
    .exact ⟨[.int .i64 0,.slice none 0 0,.slice none 0 0,.slice none 0 0],by rw [HQ.out],by rw [HQ.out];exact noSch_rep _,PZ2.out.bl⟩
namespace Sx
def e1:ByteArray:=⟨#[115,99,104,101,109,97,32,49,32,107,105,110,100,32,97,32,48,32,57,32,107,101,121,32,105,100,32,53]⟩
def e2:ByteArray:=⟨#[115,99,104,101,109,97,32,49,32,107,105,110,100,32,50]⟩
def e3:ByteArray:=⟨#[115,99,104,101,109,97,32,49,32,107,105,110,100,32,97,32,48]⟩
def x1:Sch:=(1,[(⟨#[97]⟩,0,9,[(⟨#[105,100]⟩,⟨#[]⟩,⟨#[]⟩,0,5,0,[],[])])],[],[])
def p1:Txt:=[115,99,104,101,109,97,32,49,10,107,105,110,100,32,97,32,48,32,57,10,107,101,121,32,105,100,32,53,10]
theorem x1_src:source x1=p1:=by kernel_rfl
theorem x1_valid:valid x1=0:=by
 unfold valid
 rw [x1_src]
 decide
theorem x1_print:print x1=p1:=by
 unfold print
 rw [if_pos x1_valid,x1_src]
theorem e1_parse:parse e1.data.toList=(x1,0,0):=by
 have h1:schema (toks e1.data.toList)=.ok x1 []:=by kernel_rfl
 have h2:stopAt e1.data.toList=28:=by kernel_rfl
 unfold parse
 rw [if_neg (by decide),h1]
 exact (if_neg (by rw [h2];decide)).trans (if_pos x1_valid)
theorem e2_parse:parse e2.data.toList=(noSch,14,2):=by kernel_rfl
theorem e3_parse:parse e3.data.toList=(noSch,17,2):=by kernel_rfl
end Sx
theorem okB_sz {x:Sch} (h:Sx.okB x=true):Sx.Sz x:=by
 have hb:=Sx.okB_bd h
 refine ⟨λk hk=>⟨by have:=(hb.k k hk).n;omega,λf hf=>?_⟩,λl hl=>?_,λr hr=>?_⟩
 .have h1:=Sx.fldB_bd ((hb.k k hk).f f hf)
  have:=h1.ns;have:=h1.ws;omega
 .have h1:=hb.l l hl
  have:=h1.n;have:=h1.m;omega
 .have h1:=hb.r r hr
  have:=h1.a;have:=h1.b;omega
theorem lives_any (w:World) (he:SEnv w):Calls Tryz.prog 16 #[] w λe w'=>e=.returned (.bool true)/\Below w.heap.size w w':=by
 have K1:=aI (λ(W:World) (hb:Below w.heap.size w W)=>show Calls Tryz.prog 55 #[.string ⟨#[115,99,104,101,109,97,32,49,32,107,105,110,100,32,97,32,48,32,57,32,107,101,121,32,105,100,32,53]⟩] W λe w'=>∃(A:Option Addr) (c:Nat) (B:Option Addr) (d:Nat) (C:Option Addr) (f:Nat),e=.returned (.tuple #[.agg #[.int .i64 1,.slice A 1 c,.slice B 0 d,.slice C 0 f],.int .i64 0,.int .i64 0])/\Mem.rep [] w' Sx.x1 [.int .i64 1,.slice A 1 c,.slice B 0 d,.slice C 0 f]/\Below W.heap.size W w' from by
  have h:=pparse_any Sx.e1 W (by decide) (he.to hb)
  rw [Sx.e1_parse] at h
  refine h.mono ?_
  rintro e w' ⟨us,h1,h2,h3⟩
  obtain ⟨A,c,B,d,C,f,rfl,_⟩:=rep_sch h2
  exact ⟨A,c,B,d,C,f,h1,h2,h3⟩)
 have K2:=aI (λ(W:World) (hb:Below w.heap.size w W)=>show Calls Tryz.prog 55 #[.string ⟨#[115,99,104,101,109,97,32,49,32,107,105,110,100,32,50]⟩] W λe w'=>∃(A:Option Addr) (c:Nat) (B:Option Addr) (d:Nat) (C:Option Addr) (f:Nat),e=.returned (.tuple #[.agg #[.int .i64 0,.slice A 0 c,.slice B 0 d,.slice C 0 f],.int .i64 14,.int .i64 2])/\Mem.rep [] w' Sx.noSch [.int .i64 0,.slice A 0 c,.slice B 0 d,.slice C 0 f]/\Below W.heap.size W w' from by
  have h:=pparse_any Sx.e2 W (by decide) (he.to hb)
  rw [Sx.e2_parse] at h
  refine h.mono ?_
  rintro e w' ⟨us,h1,h2,h3⟩
  obtain ⟨A,c,B,d,C,f,rfl,_⟩:=rep_sch h2
  exact ⟨A,c,B,d,C,f,h1,h2,h3⟩)
 have K3:=aI (λ(W:World) (hb:Below w.heap.size w W)=>show Calls Tryz.prog 55 #[.string ⟨#[115,99,104,101,109,97,32,49,32,107,105,110,100,32,97,32,48]⟩] W λe w'=>∃(A:Option Addr) (c:Nat) (B:Option Addr) (d:Nat) (C:Option Addr) (f:Nat),e=.returned (.tuple #[.agg #[.int .i64 0,.slice A 0 c,.slice B 0 d,.slice C 0 f],.int .i64 17,.int .i64 2])/\Mem.rep [] w' Sx.noSch [.int .i64 0,.slice A 0 c,.slice B 0 d,.slice C 0 f]/\Below W.heap.size W w' from by
  have h:=pparse_any Sx.e3 W (by decide) (he.to hb)
  rw [Sx.e3_parse] at h
  refine h.mono ?_
  rintro e w' ⟨us,h1,h2,h3⟩
  obtain ⟨A,c,B,d,C,f,rfl,_⟩:=rep_sch h2
  exact ⟨A,c,B,d,C,f,h1,h2,h3⟩)
 have HSZ:=aI (okB_sz (valid_ok Sx.x1_valid))
 have CV:=aI (λ(W:World) (us:List Value) (hr:Mem.rep [] W Sx.x1 us) (hb:Below w.heap.size w W)=>show Calls Tryz.prog 7 #[.agg us.toArray] W λe w'=>e=.returned (.int .i64 0)/\Below W.heap.size W w' from by
  have h:=valid_any Sx.x1 us W hr HSZ.out (he.to hb)
  rw [Sx.x1_valid] at h
  exact h)
 have CP:=aI (λ(W:World) (us:List Value) (hr:Mem.rep [] W Sx.x1 us) (hb:Below w.heap.size w W)=>show Calls Tryz.prog 9 #[.agg us.toArray] W λe w'=>e=.returned (.string ⟨#[115,99,104,101,109,97,32,49,10,107,105,110,100,32,97,32,48,32,57,10,107,101,121,32,105,100,32,53,10]⟩)/\Below W.heap.size W w' from by
  have h:=print_any Sx.x1 us W hr HSZ.out (he.to hb)
  rw [Sx.x1_print] at h
  exact h)
 have T:=aI (held0 w [] (λ_ h=>by cases h))
 clear he
 go_enter Tryz.func16,Tryz.ntmps16
 go_upto_region 2 with (go_at_call 55;(with_reducible refine (K1.out _ T.out.bl).mono ?_);rintro e w1 ⟨A,c,B,d,C,e,rfl,hr,hb⟩;replace T:=aI ((T.out.below hb).add (keeps_rep Sx.x1 _) hr);clear hb hr)
 obtain ⟨N,hN⟩:=aX w1.heap.size
 replace T:=aI (T.out.made #[.int .i64 1,.slice A 1 c,.slice B 0 d,.slice C 0 e] 27 hN)
 rw [hN]
 clear hN
 generalize w1.alloc (.cells #[.int .i64 1,.slice A 1 c,.slice B 0 d,.slice C 0 e] 27)=w2 at *
 go_upto_region 3 with (go_at_call 55;go_loud ((with_reducible refine (K2.out _ T.out.bl).mono ?_);rintro e w3 ⟨A2,c2,B2,d2,C2,e2,rfl,hr,hb⟩;replace T:=aI ((T.out.below hb).below ((zf _ _).alloc (ag _) (.cells #[.int .i64 0,.slice A2 0 c2,.slice B2 0 d2,.slice C2 0 e2] 27)));clear hb hr))
 generalize hw4:w3.alloc (.cells #[.int .i64 0,.slice A2 0 c2,.slice B2 0 d2,.slice C2 0 e2] 27)=w4 at *
 clear hw4
 go_upto_region 4 with (go_at_call 55;(with_reducible refine (K3.out _ T.out.bl).mono ?_);rintro e w5 ⟨A3,c3,B3,d3,C3,e3,rfl,hr,hb⟩;replace T:=aI ((T.out.below hb).below ((zf _ _).alloc (ag _) (.cells #[.int .i64 0,.slice A3 0 c3,.slice B3 0 d3,.slice C3 0 e3] 27)));clear hb hr)
 generalize hw6:w5.alloc (.cells #[.int .i64 0,.slice A3 0 c3,.slice B3 0 d3,.slice C3 0 e3] 27)=w6 at *
 clear hw6
 have CV6:=aI (show Calls Tryz.prog 7 #[.agg #[.int .i64 1,.slice A 1 c,.slice B 0 d,.slice C 0 e]] w6 λe w'=>e=.returned (.int .i64 0)/\Below w6.heap.size w6 w' from CV.out _ _ (T.out.fact (.tail _ (.head _))) T.out.bl)
 have hbk:=(T.out.fact (.head _)).2;obtain ⟨z0,z1,z2,z3⟩:=aN4 hbk.cell
 simp at z0 z1 z2 z3
 clear hbk
 go_upto_region 6 with (go_at_call 7;(with_reducible refine CV6.out.mono ?_);rintro e w7 ⟨rfl,hb⟩;replace T:=aI (T.out.below hb);clear hb z0 z1 z2 z3;obtain ⟨z0,z1,z2,z3⟩:=aM4 ((T.out.fact (.head _)).2))
 have CP7:=aI (show Calls Tryz.prog 9 #[.agg #[.int .i64 1,.slice A 1 c,.slice B 0 d,.slice C 0 e]] w7 λe w'=>e=.returned (.string ⟨#[115,99,104,101,109,97,32,49,10,107,105,110,100,32,97,32,48,32,57,10,107,101,121,32,105,100,32,53,10]⟩)/\Below w7.heap.size w7 w' from CP.out _ _ (T.out.fact (.tail _ (.head _))) T.out.bl)
 obtain ⟨A9,c9,B9,d9,C9,e9,hus,hs1,_⟩:=rep_sch (T.out.fact (.tail _ (.head _)))
 have hA:A9=A:=by
  injection hus with _ hus
  injection hus with hA _
  injection hA with hA _ _
  exact hA.symm
 clear hus
 subst hA
 obtain ⟨b,o,F,cf,rfl,_,k0,k1,k2,k3,hf,_⟩:=knd_at hs1 0 (Nat.zero_lt_succ 0)
 obtain ⟨b2,o2,F2,cf2,C2,dd2,rfl,_,f0,f1,f2,f3,f4,_⟩:=fld_at hf 0 (Nat.zero_lt_succ 0)
 replace k2:w7.cell? ⟨b,o+2,none⟩=some (.int .i64 9):=k2
 replace k3:w7.cell? ⟨b,o+3,none⟩=some (.slice (some ⟨b2,o2,none⟩) 1 cf):=k3
 replace f0:w7.cell? ⟨b2,o2,none⟩=some (.string ⟨#[105,100]⟩):=f0
 replace f4:w7.cell? ⟨b2,o2+4,none⟩=some (.int .i64 5):=f4
 clear k0 k1 f1 f2 f3 hf hs1
 go_wp2_with (go_at_call 9;(with_reducible refine CP7.out.mono ?_);rintro e w8 ⟨rfl,hb⟩;replace T:=aI (T.out.below hb);clear hb)
 go_ret
 exact ⟨rfl,T.out.bl⟩
end
end Go.Proofs.YtobcnhmhgoccnaaGreatDoor
