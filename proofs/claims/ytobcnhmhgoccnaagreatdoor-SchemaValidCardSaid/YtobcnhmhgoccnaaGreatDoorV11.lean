/- Parts of the proof, joined: SxL4, SxL5, SxW10, SxL6. -/
import Derived.Test.YtobcnhmhgoccnaaGreatDoorV10
set_option maxRecDepth 100000
set_option maxHeartbeats 16000000
set_option linter.unusedVariables false
set_option linter.unusedSimpArgs false
set_option linter.unusedSectionVars false
namespace Go.Proofs.YtobcnhmhgoccnaaGreatDoor
open Go Go.RowKit
section
namespace Sx
def pickAv:List ByteArray->List Int->List Av
 | w::ws,n::ns=>.s w::.n n::pickAv ws ns
 | _,_=>[]
theorem pickAv_t:∀(ws:List ByteArray) (ns:List Int),(pickAv ws ns).map Av.t=picksT ws ns
 | [],_=>rfl
 | _::_,[]=>rfl
 | w::ws,n::ns=>by
  show bs w::num n::(pickAv ws ns).map Av.t=bs w::num n::picksT ws ns
  rw [pickAv_t ws ns]
theorem pickAv_snoc:∀(ws:List ByteArray) (ns:List Int) (k:Nat) (h1:k < ws.length) (h2:k < ns.length),pickAv (ws.take k) (ns.take k)++[.s ws[k],.n ns[k]]=pickAv (ws.take (k+1)) (ns.take (k+1))
 | w::ws,n::ns,0,_,_=>rfl
 | w::ws,n::ns,k+1,h1,h2=>by
  have:=pickAv_snoc ws ns k (by simpa using h1) (by simpa using h2)
  show Av.s w::Av.n n::(pickAv (ws.take k) (ns.take k)++[.s (ws[k]'(by simpa using h1)),.n (ns[k]'(by simpa using h2))])=Av.s w::Av.n n::pickAv (ws.take (k+1)) (ns.take (k+1))
  rw [this]
theorem pickAv_len:∀(ws:List ByteArray) (ns:List Int),ws.length=ns.length->(pickAv ws ns).length=2*ws.length
 | [],[],_=>rfl
 | w::ws,n::ns,h=>by
  have:=pickAv_len ws ns (by simpa using h)
  show (pickAv ws ns).length+1+1=2*(ws.length+1)
  omega
theorem pickAv_fit:∀(ws:List ByteArray) (ns:List Int),(∀w∈ws,w.size<=12)->(∀n∈ns,0<=n/\n<=1048576)->∀a∈pickAv ws ns,a.fit
 | [],_,_,_,a,ha=>by cases ha
 | _::_,[],_,_,a,ha=>by cases ha
 | w::ws,n::ns,h1,h2,a,ha=>by
  rcases aL ha with rfl | ha
  .exact ah (h1 w (.head _)) (by decide)
  .rcases aL ha with rfl | ha
   .have:=h2 n (.head _)
    show -1000000000<=n/\n<=1000000000
    omega
   .exact pickAv_fit ws ns (λx hx=>h1 x (.tail _ hx)) (λx hx=>h2 x (.tail _ hx)) a ha
end Sx
theorem avCells_append (a b:List Sx.Av):avCells (a++b)=avCells a++avCells b:=by simp [avCells]
theorem pfield_3 (nm of_ up:ByteArray) (lo hi:Int) (ws:List ByteArray) (ns:List Int) (us:List Value) (w:World) (h:Mem.rep [] w ((nm,of_,up,3,lo,hi,ws,ns):Fld) us) (hf:Sx.FB ((nm,of_,up,3,lo,hi,ws,ns):Fld)) (he:SEnv w):Calls Tryz.prog 87 #[.agg us.toArray] w (LineP (Sx.fldT ((nm,of_,up,3,lo,hi,ws,ns):Fld)) w):=by
 obtain ⟨A,c,B,d,rfl,s1,s2,a4,a5,a6,a1,a2,a3,b1,b2,e1,e2⟩:=rep_f8 h
 obtain ⟨h1,h2,h3,h4,h5,h6,h7,h8,h9,_⟩:=hf
 replace h1:nm.size<=12:=h1
 replace h2:of_.size<=12:=h2
 replace h3:up.size<=12:=h3
 replace h4:-1048576<=lo/\lo<=1048576:=h4
 replace h5:-1048576<=hi/\hi<=1048576:=h5
 obtain ⟨W1,hW1⟩:=aX (w.alloc (.cells #[.string nm,.string of_,.string up,.int .i64 3,.int .i64 lo,.int .i64 hi,.slice A ws.length c,.slice B ns.length d] 65))
 have hb0:Below w.heap.size w W1:=by rw [<-hW1];exact aP _ _
 have HB:=aI hb0
 have hbk:Blk W1 w.heap.size 65 #[.string nm,.string of_,.string up,.int .i64 3,.int .i64 lo,.int .i64 hi,.slice A ws.length c,.slice B ns.length d]:=by rw [<-hW1];exact zj w _ _
 obtain ⟨c0,c1,c2,c3,c4,c5,c6,c7⟩:=aN8 hbk.cell
 simp at c0 c1 c2 c3 c4 c5 c6 c7
 have he1:=he.below hb0 he.sz
 have cw:=he1.words 3 (by decide)
 have HE:=aI he1
 obtain ⟨wd,hwd⟩:=aX (wdS 3)
 have hws:wd.size<=1000:=by rw [<-hwd];exact wdS_size 3 (by decide)
 have HWD:=aI (show Sx.bs wd=Sx.wordsL.getD 3 [] by rw [<-hwd];exact wdS_bs 3)
 rw [hwd] at cw
 have HW1:=aI hW1
 show Calls Tryz.prog 87 #[.agg #[.string nm,.string of_,.string up,.int .i64 3,.int .i64 lo,.int .i64 hi,.slice A ws.length c,.slice B ns.length d]] w _
 replace h6:ws.length<=12:=h6
 replace h7:ns.length=ws.length:=h7
 replace h8:∀s∈ws,s.size<=12:=h8
 replace h9:∀n∈ns,0<=n/\n<=1048576:=h9
 have s1':SlAt [] W1 A ws:=s1.keep (za hb0)
 have s2':SlAt [] W1 B ns:=s2.keep (za hb0)
 have T0:=aI ((((held0 W1 [] (λ_ h=>by cases h)).add (keeps_sl B ns) s2').add (keeps_sl A ws) s1').add (P:=λM W=>w.heap.size∉M/\Blk W w.heap.size 65 #[.string nm,.string of_,.string up,.int .i64 3,.int .i64 lo,.int .i64 hi,.slice A ws.length c,.slice B ns.length d]) (keeps_blk _ _ _) ⟨by simp,hbk⟩)
 obtain ⟨n,hn⟩:=aX ws.length
 have HN:=aI hn
 have HN2:=aI (h7.trans hn)
 have HP0:=aI (show ∀a∈Sx.Av.s nm::Sx.Av.n (n:Int)::Sx.pickAv ws ns,a.fit from λa ha=>by
  rcases aL ha with rfl | ha
  .exact (show nm.size<=100 by omega)
  .rcases aL ha with rfl | ha
   .exact (show -1000000000<=(n:Int)/\(n:Int)<=1000000000 by omega)
   .exact Sx.pickAv_fit ws ns h8 h9 a ha)
 have HNL:=aI (show n<=12 by omega)
 show Calls Tryz.prog 87 #[.agg #[.string nm,.string of_,.string up,.int .i64 3,.int .i64 lo,.int .i64 hi,.slice A ws.length c,.slice B ns.length d]] w _
 rw [h7,hn]
 rw [h7,hn] at c7 T0 HW1
 rw [hn] at c6
 obtain ⟨N,hNN⟩:=aX w.heap.size
 rw [hNN] at c0 c1 c2 c3 c4 c5 c6 c7 T0
 obtain ⟨M1,hr1,_⟩:=T0.out.take (aP _ _) (World.ownsRow_lit (base:=W1.heap.size) (size:=1) (e:=20) W1 #[.iface 9 (.string nm),.iface 3 (.int .i64 (n:Int))] 2 (ag _) (by decide) rfl)
 have T:=aI hr1
 have HX:=aI (show HRow W1 [] M1 [] _ 20 1 (.slice (some ⟨W1.heap.size,0,none⟩) 2 2) 2 [.iface 9 (.string nm),.iface 3 (.int .i64 (n:Int))] _ from hr1)
 clear h s1 s2 a1 a2 a3 a4 a5 a6 b1 b2 e1 e2 h1 h2 h3 h4 h5 h6 h7 h8 h9 hbk hW1 hb0 he1 he hwd s1' s2' hn hr1
 go_enter Tryz.func87,Tryz.ntmps87
 go_upto_region 1 with fail
 rw [HW1.out]
 go_upto_region 9 with fail
 clear hNN HX c0 c1 c2 c3 c4 c5 c6 c7 T0
 generalize W1.alloc (.cells #[.iface 9 (.string nm),.iface 3 (.int .i64 (n:Int))] 20)=W2 at *
 have c6:=(T.out.h.fact (.head _)).2.cell 6;have c7:=(T.out.h.fact (.head _)).2.cell 7
 simp at c6 c7
 go_wp2_with fail
 clear c6 c7
 go_loopg [4,51] n (λr v i wr=>∃(k:Nat) (M:List Nat),k+r=n/\i=.int .i64 k/\HRow W1 [] M [] [λM W=>N∉M/\Blk W N 65 #[.string nm,.string of_,.string up,.int .i64 3,.int .i64 lo,.int .i64 hi,.slice A n c,.slice B n d],λM W=>SlAt M W A ws,λM W=>SlAt M W B ns] 20 1 v (2+2*k) (avCells (Sx.Av.s nm::Sx.Av.n (n:Int)::Sx.pickAv (ws.take k) (ns.take k))) wr)
 case atStart=>exact ⟨0,_,by omega,rfl,T.out⟩
 case round =>
  obtain ⟨k,M,hk,rfl,hb⟩:=hrel
  obtain ⟨wo,rfl⟩:=aY wr
  replace T:=aI hb
  clear hb
  have hbk:=(T.out.h.fact (.head _)).2
  have c6:=hbk.cell 6;have c7:=hbk.cell 7
  simp at c6 c7
  clear hbk
  have hn12:n<=12:=HNL.out
  by_cases hlt:k < n
  .have hkp:k < ws.length:=by rw [HN.out];exact hlt
   have hkq:k < ns.length:=by rw [HN2.out];exact hlt
   have k0:(0:Int)<=(k:Int):=aa _
   have k1:(k:Int) < (n:Int):=by omega
   obtain ⟨A4,c4,rfl⟩:=zP T.out.own
   obtain ⟨b,o,rfl,_,d0,_⟩:=str_at (T.out.h.fact (.tail _ (.head _))) k hkp
   obtain ⟨b2,o2,rfl,_,d1,hI2⟩:=int_at (T.out.h.fact (.tail _ (.tail _ (.head _)))) k hkq
   have HS:=aI (show avCells (Sx.Av.s nm::Sx.Av.n (n:Int)::Sx.pickAv (ws.take k) (ns.take k))++[.iface 9 (.string ws[k]),.iface 3 (.int .i64 ns[k])]=avCells (Sx.Av.s nm::Sx.Av.n (n:Int)::Sx.pickAv (ws.take (k+1)) (ns.take (k+1))) by
    rw [<-Sx.pickAv_snoc ws ns k hkp hkq,<-zM,<-zM,avCells_append];rfl)
   generalize ws[k]=x0 at d0 HS
   generalize ns[k]=y0 at d1 HS hI2
   obtain ⟨i0,hI,hz0,hz1,hz2⟩:=zq infoAny
   have HII:=aI (show _/\_/\_/\_ from ⟨hI,hz0,hz1,hz2⟩)
   clear hI hz0 hz1 hz2
   go_wp2_with (at_builtin;obtain ⟨hI,hz0,hz1,hz2⟩:=HII.out;refine wpList_append_row (by rfl) _ _ 128 (by rfl) 20 i0 _ 1 16 Tryz.underlying128 hI hz0 hz1 hz2 rfl (by decide) (T.out.below (aP _ _)) (by rfl) _ _ 2 2 [.iface 9 (.string x0),.iface 3 (.int .i64 y0)] (by rfl) (reads_blk (zj _ _ _) rfl) (by simp [Value.oneCell']) (by unfold maxLen;omega) (by omega) ?_;intro v7 w7 M7 h7 _;rw [HS.out] at h7;replace T:=aI h7;clear h7 hI hz0 hz1 hz2)
   go_roundg (gk - 1)
   case measure=>omega
   case rel=>exact ⟨k+1,_,by omega,by go_num,T.out⟩
  .have k1:¬(k:Int) < (n:Int):=by omega
   obtain rfl:k=n:=by omega
   rw [List.take_of_length_le (Nat.le_of_eq HN.out),List.take_of_length_le (Nat.le_of_eq HN2.out)] at T
   have hpl:=Sx.pickAv_len ws ns (HN.out.trans HN2.out.symm)
   rw [HN.out] at hpl
   obtain ⟨A4,c4,hv,hc1,hc2,hF⟩:=T.out.freeze (α:=Sx.Av) (l:=Sx.Av.s nm::Sx.Av.n (k:Int)::Sx.pickAv ws ns) rfl (by rw [zm,zm,hpl];omega) (flat_avs HP0.out) (λg hg=>by cases hg)
   subst hv
   have CL:=aI (line_any wd (Sx.Av.s nm::Sx.Av.n (k:Int)::Sx.pickAv ws ns) A4 c4 wo ((hF.fact (.head _)).sub (λg hg=>by cases hg)) (λa ha=>(HP0.out a ha).ok) (by rw [zm,zm,hpl];omega) hws (HE.out.t.below T.out.h.bl HE.out.t.sz))
   have HBO:=aI (HB.out.trans (T.out.h.bl.mono HB.out.size))
   rw [HWD.out] at CL
   have HT:=aI (show Sx.lineT (Sx.wordsL.getD 3 []::(Sx.Av.s nm::Sx.Av.n (k:Int)::Sx.pickAv ws ns).map Sx.Av.t)=Sx.lineT (Sx.fldT ((nm,of_,up,3,lo,hi,ws,ns):Fld)) by
    show Sx.lineT (_::Sx.bs nm::Sx.num (k:Int)::(Sx.pickAv ws ns).map Sx.Av.t)=Sx.lineT (_::Sx.bs nm::Sx.num (ws.length:Int)::Sx.picksT ws ns)
    rw [Sx.pickAv_t,HN.out])
   rw [HT.out] at CL
   generalize (Sx.Av.s nm::Sx.Av.n (k:Int)::Sx.pickAv ws ns).length=ln at *
   clear hF hc1 hc2 T
   go_wp2_with (go_at_call 86;(with_reducible refine CL.out.mono ?_);rintro e w2 ⟨rfl,hb2⟩;replace HBO:=aT HBO hb2;clear hb2)
   go_ret
   exact ⟨rfl,HBO.out⟩
theorem pfield_any (f:Fld) (us:List Value) (w:World) (h:Mem.rep [] w f us) (hf:Sx.fldB f=true) (he:SEnv w):Calls Tryz.prog 87 #[.agg us.toArray] w (LineP (Sx.fldT f) w):=by
 have hb:=Sx.fldB_bd hf
 obtain ⟨nm,of_,up,kd,lo,hi,ws,ns⟩:=f
 obtain ⟨k,hk,hkd⟩:=hb.kd
 obtain rfl:kd=(k:Int):=hkd
 by_cases h3:k=3
 .subst h3;exact pfield_3 nm of_ up lo hi ws ns us w h hb he
 .exact pfield_o k hk h3 nm of_ up lo hi ws ns us w h hb he
end
section
namespace Sx
theorem num_len {n:Int} (h:-1000000000<=n/\n<=1000000000):(num n).length<=12:=ah (Dc.itoa_len n (by omega)) (by decide)
theorem bs_len (s:ByteArray):(bs s).length=s.size:=strLen s
theorem orNone_len {s:ByteArray} (h:s.size<=12):(orNone s).length<=12:=by rw [<-orN_list,bs_len];exact orN_sz h (by decide)
theorem words_len (k:Nat):(wordsL.getD k []).length<=12:=by
 rcases Nat.lt_or_ge k 9 with h | h
 .rcases (show k=0∨k=1∨k=2∨k=3∨k=4∨k=5∨k=6∨k=7∨k=8 by omega) with rfl | rfl | rfl | rfl | rfl | rfl | rfl | rfl | rfl <;> decide
 .rw [List.getD_eq_getElem?_getD,List.getElem?_eq_none (show wordsL.length<=k from h)];decide
def Short (l:List Txt):Prop:=l.length<=30/\∀t∈l,t.length<=12
theorem lineT_le:∀{l:List Txt},(∀t∈l,t.length<=12)->(lineT l).length<=13*l.length+1
 | [],_=>by simp [lineT]
 | t::l,h=>by
  have h1:=h t (.head _)
  rw [lineT_cons]
  have h2:∀{l:List Txt},(∀t∈l,t.length<=12)->(l.flatMap λu=>32::u).length<=13*l.length:=by
   intro l
   induction l with
   | nil=>intro _;simp
   | cons u l ih =>
    intro h
    have:=ih λt ht=>h t (.tail _ ht)
    have:=h u (.head _)
    rw [zR,aK,zm,zm]
    omega
  have:=h2 λt ht=>h t (.tail _ ht)
  simp only [aK,zm,qt]
  omega
theorem Short.line {l:List Txt} (h:Short l):(lineT l).length<=391:=by have:=lineT_le h.2;have:=h.1;omega
theorem picks_short:∀(ws:List ByteArray) (ns:List Int),(∀w∈ws,w.size<=12)->(∀n∈ns,0<=n/\n<=1048576)->(picksT ws ns).length<=2*ws.length/\∀t∈picksT ws ns,t.length<=12
 | [],_,_,_=>⟨ag _,λt h=>by cases h⟩
 | _::_,[],_,_=>⟨zN _,λt h=>by cases h⟩
 | w::ws,n::ns,h1,h2=>by
  obtain ⟨a,b⟩:=picks_short ws ns (λx hx=>h1 x (.tail _ hx)) (λx hx=>h2 x (.tail _ hx))
  refine ⟨?_,λt ht=>?_⟩
  .show (picksT ws ns).length+1+1<=2*(ws.length+1);omega
  .rcases aL ht with rfl | ht
   .rw [bs_len];exact h1 w (.head _)
   .rcases aL ht with rfl | ht
    .exact num_len (by have:=h2 n (.head _);omega)
    .exact b t ht
theorem short_of {l:List Txt} (h:l.length<=30) (h2:l.all (λt=>decide (t.length<=12))=true):Short l:=⟨h,λt ht=>by simpa using List.all_eq_true.1 h2 t ht⟩
theorem fldT_short {f:Fld} (h:FB f):Short (fldT f):=by
 have h1:decide ((bs (Sc.nm f)).length<=12)=true:=by rw [bs_len];exact ac h.nm
 have h2:decide ((bs (Sc.of_ f)).length<=12)=true:=by rw [bs_len];exact ac h.of_
 have h3:decide ((bs (Sc.up f)).length<=12)=true:=by rw [bs_len];exact ac h.up
 have h4:decide ((num (Sc.lo f)).length<=12)=true:=ac (num_len (by have:=h.lo;omega))
 have h5:decide ((num (Sc.hi f)).length<=12)=true:=ac (num_len (by have:=h.hi;omega))
 have h6:decide ((orNone (Sc.of_ f)).length<=12)=true:=ac (orNone_len h.of_)
 have h7:∀k,decide ((wordsL.getD k []).length<=12)=true:=λk=>ac (words_len k)
 unfold fldT
 split
 .exact short_of (by first | decide | exact zv rfl) (by simp only [List.all_cons,h1,h4,h7,List.all_nil,Bool.and_self])
 split
 .exact short_of (by first | decide | exact zv rfl) (by simp only [List.all_cons,h1,h4,h5,h7,List.all_nil,Bool.and_self])
 split
 .obtain ⟨a,b⟩:=picks_short _ _ h.w h.n
  have hw:=h.ws
  refine ⟨by simp only [zm];omega,λt ht=>?_⟩
  rcases aL ht with rfl | ht
  .exact words_len _
  rcases aL ht with rfl | ht
  .simpa using h1
  rcases aL ht with rfl | ht
  .exact num_len (by omega)
  .exact b t ht
 split
 .exact short_of (by first | decide | exact zv rfl) (by simp only [List.all_cons,h1,h2,h7,List.all_nil,Bool.and_self])
 split
 .exact short_of (by first | decide | exact zv rfl) (by simp only [List.all_cons,h1,h2,h3,h4,h5,h7,List.all_nil,Bool.and_self])
 split
 .exact short_of (by first | decide | exact zv rfl) (by simp only [List.all_cons,h1,h2,h3,h7,List.all_nil,Bool.and_self])
 .exact short_of (by first | decide | exact zv rfl) (by simp only [List.all_cons,h1,h4,h5,h6,h7,List.all_nil,Bool.and_self])
structure KB (k:Knd):Prop where
 nm:k.1.size<=12
 lo:0<=k.2.1/\k.2.1<=65536
 hi:0<=k.2.2.1/\k.2.2.1<=65536
 n:(Sc.flds k).length<=10
 f:∀f∈Sc.flds k,fldB f=true
theorem kndB_bd {k:Knd} (h:kndB k=true):KB k:=by
 unfold kndB at h
 simp only [zw,zD,List.all_eq_true] at h
 obtain ⟨a,b,c,d⟩:=h
 have:=span_of b
 exact ⟨(nm_sz a).2,by omega,by omega,c,d⟩
structure LB (x:Lif):Prop where
 nm:x.1.size<=12
 n:1<=x.2.1.length/\x.2.1.length<=12
 s:∀s∈x.2.1,s.size<=12
 m:x.2.2.length<=32
 v:∀m∈x.2.2,0<=m.1/\m.1<=11/\0<=m.2/\m.2<=11
theorem lifB_bd {x:Lif} (h:lifB x=true):LB x:=by
 unfold lifB at h
 simp only [zw,zD,List.all_eq_true] at h
 obtain ⟨a,b,c,d,e⟩:=h
 have hb:=within_of b
 refine ⟨(nm_sz a).2,by omega,λs hs=>(nm_sz (c s hs)).2,d,λm hm=>?_⟩
 have h1:=within_of (e m hm).1
 have h2:=within_of (e m hm).2
 omega
structure RB (r:Rul):Prop where
 nm:r.1.size<=12
 k:r.2.1.size<=12
 a:r.2.2.1.size<=12
 b:r.2.2.2.1.size<=12
 n:-1048576<=r.2.2.2.2/\r.2.2.2.2<=1048576
theorem emnm_sz {s:ByteArray} (h:em s=true∨nm s=true):s.size<=12:=by
 rcases h with h | h
 .have:=em_sz h;omega
 .exact (nm_sz h).2
theorem rulB_bd {r:Rul} (h:rulB r=true):RB r:=by
 unfold rulB most at h
 simp only [zw,Bool.or_eq_true] at h
 obtain ⟨a,b,c,d,_,e⟩:=h
 have:=within_of e
 exact ⟨(nm_sz a).2,(nm_sz b).2,emnm_sz c,emnm_sz d,by omega⟩
structure OB (x:Sch):Prop where
 v:0<=x.1/\x.1<=1048576
 nk:(Sc.kinds x).length<=6
 nl:x.2.2.1.length<=6
 nr:x.2.2.2.length<=16
 k:∀k∈Sc.kinds x,KB k
 l:∀l∈x.2.2.1,LB l
 r:∀r∈x.2.2.2,RB r
theorem okB_bd {x:Sch} (h:okB x=true):OB x:=by
 unfold okB most at h
 simp only [zw,zD,List.all_eq_true] at h
 obtain ⟨a,b,c,d,e,f,g⟩:=h
 have:=within_of a
 exact ⟨by omega,b,c,d,λk hk=>kndB_bd (e k hk),λl hl=>lifB_bd (f l hl),λr hr=>rulB_bd (g r hr)⟩
theorem flat_le {α β:Type} (f:α->List β) (c:Nat):∀{l:List α},(∀a∈l,(f a).length<=c)->(l.flatMap f).length<=l.length*c
 | [],_=>by simp
 | a::l,h=>by
  have h1:=flat_le f c (l:=l) λx hx=>h x (.tail _ hx)
  have h2:=h a (.head _)
  rw [zR,aK,zm,Nat.succ_mul]
  omega
theorem flat_all {α β:Type} {f:α->List β} {P:β->Prop} {l:List α} (h:∀a∈l,∀b∈f a,P b):∀b∈l.flatMap f,P b:=λb hb=>by
 obtain ⟨a,ha,hb⟩:=List.mem_flatMap.1 hb
 exact h a ha b hb
theorem kndL_short {k:Knd} (h:KB k):(kndL k).length<=11/\∀l∈kndL k,Short l:=by
 have hn:=h.n
 refine ⟨?_,λl hl=>?_⟩
 .show ((Sc.flds k).map fldT).length+1<=11;rw [zu];omega
 .rcases aL hl with rfl | hl
  .have h1:decide ((bs k.1).length<=12)=true:=by rw [bs_len];exact ac h.nm
   have h4:decide ((num k.2.1).length<=12)=true:=ac (num_len (by have:=h.lo;omega))
   have h5:decide ((num k.2.2.1).length<=12)=true:=ac (num_len (by have:=h.hi;omega))
   exact short_of (by first | decide | exact zv rfl) (by simp only [List.all_cons,h1,h4,h5,List.all_nil,Bool.and_self];decide)
  .obtain ⟨f,hf,rfl⟩:=List.mem_map.1 hl
   exact fldT_short (fldB_bd (h.f f hf))
theorem lifL_short {x:Lif} (h:LB x):(lifL x).length<=33/\∀l∈lifL x,Short l:=by
 have hm:=h.m
 have hn:=h.n
 refine ⟨?_,λl hl=>?_⟩
 .show (x.2.2.map _).length+1<=33;rw [zu];omega
 .rcases aL hl with rfl | hl
  .refine ⟨by simp only [zm,zu];omega,λt ht=>?_⟩
   rcases aL ht with rfl | ht
   .decide
   rcases aL ht with rfl | ht
   .rw [bs_len];exact h.nm
   rcases aL ht with rfl | ht
   .exact num_len (by omega)
   .obtain ⟨s,hs,rfl⟩:=List.mem_map.1 ht
    rw [bs_len];exact h.s s hs
  .obtain ⟨m,hm,rfl⟩:=List.mem_map.1 hl
   have hv:=h.v m hm
   have h4:decide ((num m.1).length<=12)=true:=ac (num_len (by omega))
   have h5:decide ((num m.2).length<=12)=true:=ac (num_len (by omega))
   exact short_of (by first | decide | exact zv rfl) (by simp only [List.all_cons,h4,h5,List.all_nil,Bool.and_self];decide)
theorem rulL_short {r:Rul} (h:RB r):Short (rulL r):=by
 have h1:decide ((bs r.1).length<=12)=true:=by rw [bs_len];exact ac h.nm
 have h2:decide ((bs r.2.1).length<=12)=true:=by rw [bs_len];exact ac h.k
 have h3:decide ((orNone r.2.2.1).length<=12)=true:=ac (orNone_len h.a)
 have h4:decide ((orNone r.2.2.2.1).length<=12)=true:=ac (orNone_len h.b)
 have h5:decide ((num r.2.2.2.2).length<=12)=true:=ac (num_len (by have:=h.n;omega))
 exact short_of (by first | decide | exact zv rfl) (by unfold rulL;simp only [List.all_cons,h1,h2,h3,h4,h5,List.all_nil,Bool.and_self];decide)
theorem linesL_short {x:Sch} (h:OB x):(linesL x).length<=300/\∀l∈linesL x,Short l:=by
 have hk:=flat_le kndL 11 λk hk=>(kndL_short (h.k k hk)).1
 have hl:=flat_le lifL 33 λk hk=>(lifL_short (h.l k hk)).1
 have h1:=h.nk;have h2:=h.nl;have h3:=h.nr
 refine ⟨?_,λl hl=>?_⟩
 .show (_++(_++_):List (List Txt)).length+1<=300
  rw [aK,aK,zu]
  omega
 .rcases aL hl with rfl | hl
  .have h4:decide ((num x.1).length<=12)=true:=ac (num_len (by have:=h.v;omega))
   exact short_of (by first | decide | exact zv rfl) (by simp only [List.all_cons,h4,List.all_nil,Bool.and_self];decide)
  rcases zE.1 hl with hl | hl
  .exact flat_all (λk hk=>(kndL_short (h.k k hk)).2) l hl
  rcases zE.1 hl with hl | hl
  .exact flat_all (λk hk=>(lifL_short (h.l k hk)).2) l hl
  .obtain ⟨r,hr,rfl⟩:=List.mem_map.1 hl
   exact rulL_short (h.r r hr)
theorem source_le {x:Sch} (h:OB x):(source x).length<=1000000:=by
 have h1:=linesL_short h
 have h2:=flat_le lineT 391 λl hl=>(h1.2 l hl).line
 show ((linesL x).flatMap lineT).length<=1000000
 have:=h1.1
 have:(linesL x).length*391<=300*391:=Nat.mul_le_mul_right _ this
 omega
theorem src_step {acc S:Txt} {l:List Txt} {R:List (List Txt)} (h:acc++(l::R).flatMap lineT=S):(acc++lineT l)++R.flatMap lineT=S:=by
 rw [<-h,zR,zo]
theorem src_le {acc S:Txt} {R:List (List Txt)} (h:acc++R.flatMap lineT=S):acc.length<=S.length:=by rw [<-h,aK];omega
end Sx
section
variable {G:List Nat} {w:World}
theorem rep_lif {x:Lif} {us:List Value} (h:Mem.rep G w x us):∃A c B d,us=[.string x.1,.slice A x.2.1.length c,.slice B x.2.2.length d]/\SlAt G w A x.2.1/\SlAt G w B x.2.2/\x.1.size<=9223372036854775807/\x.2.1.length<=c/\c<=9223372036854775807/\x.2.2.length<=d/\d<=9223372036854775807:=by
 obtain ⟨u1,t1,rfl,⟨rfl,a1⟩,u2,t2,rfl,⟨A,c,rfl,b1,b2,b3⟩,⟨B,d,rfl,c1,c2,c3⟩⟩:=h
 exact ⟨A,c,B,d,rfl,b3,c3,a1,b1,b2,c1,c2⟩
theorem rep_rul {x:Rul} {us:List Value} (h:Mem.rep G w x us):us=[.string x.1,.string x.2.1,.string x.2.2.1,.string x.2.2.2.1,.int .i64 x.2.2.2.2]/\x.1.size<=9223372036854775807/\x.2.1.size<=9223372036854775807/\x.2.2.1.size<=9223372036854775807/\x.2.2.2.1.size<=9223372036854775807/\inI x.2.2.2.2:=by
 obtain ⟨u1,t1,rfl,⟨rfl,a1⟩,u2,t2,rfl,⟨rfl,a2⟩,u3,t3,rfl,⟨rfl,a3⟩,u4,t4,rfl,⟨rfl,a4⟩,⟨rfl,a5⟩⟩:=h
 exact ⟨rfl,a1,a2,a3,a4,a5⟩
theorem rep_mv {x:Int × Int} {us:List Value} (h:Mem.rep G w x us):us=[.int .i64 x.1,.int .i64 x.2]/\inI x.1/\inI x.2:=by
 obtain ⟨u1,t1,rfl,⟨rfl,a1⟩,⟨rfl,a2⟩⟩:=h
 exact ⟨rfl,a1,a2⟩
end
theorem SEnv.to {w w':World} (h:SEnv w) (hb:Below w.heap.size w w'):SEnv w':=h.below hb h.sz
theorem Bld.hnew {w W:World} {G M:List Nat} {bx:List Box} {L:List (List Nat->World->Prop)} (h:Held w G M bx L W) {N:Nat} (hN:W.heap.size=N):Bld w G (N::M) bx L N [] (W.alloc (.cells #[.pointer none,.slice none 0 0] 121)):=by subst hN;exact Bld.new h
section
variable {w W:World} {G M:List Nat} {bx:List Box} {L:List (List Nat->World->Prop)} {b:Nat} {l:List UInt8}
theorem Bld.add (h:Bld w G M bx L b l W) {P:List Nat->World->Prop} (hk:Keeps P) (hp:P M W):Bld w G M bx (P::L) b l W:=by
 obtain ⟨p,v,hv,h⟩:=h.it
 exact ⟨⟨p,v,hv,h.add hk hp⟩⟩
theorem Bld.less {L':List (List Nat->World->Prop)} (h:Bld w G M bx L b l W) (hL:∀P∈L',P∈L):Bld w G M bx L' b l W:=by
 obtain ⟨p,v,hv,h⟩:=h.it
 exact ⟨⟨p,v,hv,h.less hL⟩⟩
theorem Bld.ltail {P:List Nat->World->Prop} (h:Bld w G M bx (P::L) b l W):Bld w G M bx L b l W:=h.less λ_ hP=>.tail _ hP
end
theorem source_any (x:Sch) (us:List Value) (w:World) (h:Mem.rep [] w x us) (hok:Sx.okB x=true) (he:SEnv w):Calls Tryz.prog 32 #[.agg us.toArray] w λe w'=>e=.returned (.string ⟨(Sx.source x).toArray⟩)/\Below w.heap.size w w':=by
 obtain ⟨A,c,B,d,C,e,rfl,s1,s2,s3,a1,b1,b2,b3,b4,b5,b6⟩:=rep_sch h
 have OB:=Sx.okB_bd hok
 have HOB:=aI OB
 have hx0:=OB.v
 have hnk:=OB.nk;have hnl:=OB.nl;have hnr:=OB.nr
 obtain ⟨S,hS⟩:=aX (Sx.source x)
 have hSl:S.length<=1000000:=by rw [<-hS];exact Sx.source_le OB
 have HS0:=aI (show ([]:Sx.Txt)++(Sx.linesL x).flatMap Sx.lineT=S from hS)
 have HS:=aI hS
 obtain ⟨nk,hk⟩:=aX ((Sc.kinds x).length)
 obtain ⟨nl,hl⟩:=aX x.2.2.1.length
 obtain ⟨nr,hr⟩:=aX x.2.2.2.length
 have HNK:=aI hk;have HNL:=aI hl;have HNR:=aI hr
 rw [hk] at hnk;rw [hl] at hnl;rw [hr] at hnr
 obtain ⟨N,hN⟩:=aX w.heap.size
 obtain ⟨W0,hW0⟩:=aX (w.alloc (.cells #[.int .i64 x.1,.slice A nk c,.slice B nl d,.slice C nr e] 27))
 have hb0:Below w.heap.size w W0:=by rw [<-hW0];exact aP _ _
 have hbk:Blk W0 N 27 #[.int .i64 x.1,.slice A nk c,.slice B nl d,.slice C nr e]:=by rw [<-hW0,<-hN];exact zj w _ _
 have T0:=aI (((((held0 W0 [] (λ_ h=>by cases h)).add (keeps_sl C x.2.2.2) (s3.keep (za hb0))).add (keeps_sl B x.2.2.1) (s2.keep (za hb0))).add (keeps_sl A (Sc.kinds x)) (s1.keep (za hb0))).add (P:=λM W=>N∉M/\Blk W N 27 #[.int .i64 x.1,.slice A nk c,.slice B nl d,.slice C nr e]) (keeps_blk _ _ _) ⟨by simp,hbk⟩)
 have HB:=aI hb0
 have HE:=aI (he.to hb0)
 have HW0:=aI hW0
 have HN:=aI hN
 show Calls Tryz.prog 32 #[.agg #[.int .i64 x.1,.slice A (Sc.kinds x).length c,.slice B x.2.2.1.length d,.slice C x.2.2.2.length e]] w _
 rw [hk,hl,hr]
 clear h s1 s2 s3 a1 b1 b2 b3 b4 b5 b6 hk hl hr hbk hb0 hW0 hN he OB hS
 go_enter Tryz.func32,Tryz.ntmps32
 go_upto_region 1 with fail
 rw [HW0.out,HN.out]
 replace HW0:=aI (HW0.out)
 obtain ⟨w1,rfl⟩:=aY W0
 obtain ⟨Nb,hNb⟩:=aX w1.heap.size
 have T:=aI (Bld.hnew T0.out hNb)
 have HNb:=aI hNb
 clear T0 hNb
 go_upto_region 2 with fail
 rw [HNb.out]
 generalize w1.alloc (.cells #[.pointer none,.slice none 0 0] 121)=w2 at *
 have hbk:=(T.out.fact (.head _)).2
 have z0:=hbk.cell 0
 simp at z0
 clear hbk
 obtain ⟨acc,hacc0⟩:∃a:Sx.Txt,[]=a:=⟨_,rfl⟩
 rw [hacc0] at T HS0
 clear hacc0
 have HFT:=aI (show ∀a∈([.n x.1]:List Sx.Av),a.fit by
  intro a ha
  simp only [zB,zr,zQ] at ha
  subst ha
  .exact (show -1000000000<=x.1/\x.1<=1000000000 by omega))
 have CL:=aI (λ(W:World) (hb:Below w1.heap.size w1 W)=>show Calls Tryz.prog 86 #[.string ⟨#[115,99,104,101,109,97]⟩,.slice (some ⟨W.heap.size,0,none⟩) 1 1] (W.alloc (.cells #[.iface 3 (.int .i64 x.1)] 20)) λe w'=>e=.returned (.string ⟨(Sx.lineT [Sx.sSchema,Sx.num x.1]).toArray⟩)/\Below W.heap.size W w' from line_new ⟨#[115,99,104,101,109,97]⟩ [.n x.1] W HFT.out (zv rfl) (by decide) (HE.out.t.below hb HE.out.t.sz))
 obtain ⟨d9,hd9⟩:∃d:ByteArray,(⟨(Sx.lineT [Sx.sSchema,Sx.num x.1]).toArray⟩:ByteArray)=d:=⟨_,rfl⟩
 rw [hd9] at CL
 have HD9:=aI (show d9.data.toList=Sx.lineT [Sx.sSchema,Sx.num x.1] by rw [<-hd9])
 have HR:=aI (Sx.src_step (l:=[Sx.sSchema,Sx.num x.1]) HS0.out)
 have hds:acc.length+d9.size<=1000000:=by
  have h:=Sx.src_le HR.out
  rw [aK,<-HD9.out,strLen] at h
  omega
 clear hd9 HFT HS0
 go_upto_region 3 with (first | (go_at_call 86;(with_reducible refine (CL.out _ T.out.bl).mono ?_);rintro e w2 ⟨rfl,hb2⟩;replace T:=aI (T.out.below hb2);clear hb2 z0) | (go_at_call 85;(with_reducible refine (writeString_any d9 T.out (by omega)).mono ?_);rintro e w3 ⟨rfl,M3,hT3,_⟩;replace T:=aI hT3;clear hT3))
 rw [HD9.out] at T
 obtain ⟨RK,hRK⟩:=aX (x.2.2.1.flatMap Sx.lifL++x.2.2.2.map Sx.rulL)
 rw [hRK] at HR
 have HRK:=aI hRK
 generalize acc++Sx.lineT [Sx.sSchema,Sx.num x.1]=acc at *
 have hbk:=(T.out.fact (.head _)).2
 have z1:=hbk.cell 1
 simp at z1
 clear hbk HD9 CL hRK hds
 go_wp2_with fail
 clear z1
 go_loopg [26] nk (λr i wr=>∃(k:Nat) (acc:Sx.Txt) (M:List Nat),k+r=nk/\i=.int .i64 k/\acc++(((Sc.kinds x).drop k).flatMap Sx.kndL++RK).flatMap Sx.lineT=S/\Bld w1 [] M [] [λM W=>N∉M/\Blk W N 27 #[.int .i64 x.1,.slice A nk c,.slice B nl d,.slice C nr e],λM W=>SlAt M W A (Sc.kinds x),λM W=>SlAt M W B x.2.2.1,λM W=>SlAt M W C x.2.2.2] Nb acc wr)
 case atStart=>exact ⟨0,acc,_,by omega,rfl,HR.out,T.out⟩
 case round =>
  clear HR T
  obtain ⟨k,acc,M,hk,rfl,hacc,hT⟩:=hrel
  obtain ⟨wo,rfl⟩:=aY wr
  obtain ⟨gq,rfl⟩:=aY gk
  have T:=aI hT
  clear hT
  by_cases hlt:k < nk
  .have hkp:k < (Sc.kinds x).length:=by rw [HNK.out];exact hlt
   have k0:(0:Int)<=(k:Int):=aa _
   have k1:(k:Int) < (nk:Int):=by omega
   have HR:=aI hacc
   rw [List.drop_eq_getElem_cons hkp,zR,zo] at HR
   have kb:=HOB.out.k _ (ze hkp)
   obtain ⟨b,o,F,cf,rfl,_,c0,c1,c2,c3,hsl,_⟩:=knd_at (T.out.fact (.tail _ (.head _))) k hkp
   obtain ⟨kd,hkd⟩:=aX ((Sc.kinds x)[k])
   rw [hkd] at c0 c1 c2 c3 hsl HR kb
   have HKB:=aI kb
   have hq1:=kb.nm;have hq2:=kb.lo;have hq3:=kb.hi
   obtain ⟨nf,hnf⟩:=aX ((Sc.flds kd).length)
   have HNF:=aI hnf
   have hq4:=kb.n
   rw [hnf] at c3 hq4
   obtain ⟨Nk,hNk⟩:=aX wo.heap.size
   replace T:=aI ((T.out.add (keeps_sl F (Sc.flds kd)) hsl).newBox #[.string kd.1,.int .i64 kd.2.1,.int .i64 kd.2.2.1,.slice F nf cf] 52 hNk)
   clear hnf hacc hkd kb hsl
   go_upto_region 6 with fail
   generalize wo.alloc (.cells #[.string kd.1,.int .i64 kd.2.1,.int .i64 kd.2.2.1,.slice F nf cf] 52)=w5 at *
   clear hNk c0 c1 c2 c3
   have hbk:=T.out.box (.head _)
   obtain ⟨z0,z1,z2⟩:=aN3 hbk.cell
   simp at z0 z1 z2
   clear hbk
   have HR0:=aI (show acc++([Sx.sKind,Sx.bs kd.1,Sx.num kd.2.1,Sx.num kd.2.2.1]::((Sc.flds kd).map Sx.fldT++(((Sc.kinds x).drop (k+1)).flatMap Sx.kndL++RK))).flatMap Sx.lineT=S from HR.out)
   clear HR
   have HFT:=aI (show ∀a∈([.s kd.1,.n kd.2.1,.n kd.2.2.1]:List Sx.Av),a.fit by
    intro a ha
    simp only [zB,zr,zQ] at ha
    rcases ha with rfl | rfl | rfl
    .exact (show ByteArray.size kd.1<=100 by omega)
    .exact (show -1000000000<=kd.2.1/\kd.2.1<=1000000000 by omega)
    .exact (show -1000000000<=kd.2.2.1/\kd.2.2.1<=1000000000 by omega))
   have CL:=aI (λ(W:World) (hb:Below w1.heap.size w1 W)=>show Calls Tryz.prog 86 #[.string ⟨#[107,105,110,100]⟩,.slice (some ⟨W.heap.size,0,none⟩) 3 3] (W.alloc (.cells #[.iface 9 (.string kd.1),.iface 3 (.int .i64 kd.2.1),.iface 3 (.int .i64 kd.2.2.1)] 20)) λe w'=>e=.returned (.string ⟨(Sx.lineT [Sx.sKind,Sx.bs kd.1,Sx.num kd.2.1,Sx.num kd.2.2.1]).toArray⟩)/\Below W.heap.size W w' from line_new ⟨#[107,105,110,100]⟩ [.s kd.1,.n kd.2.1,.n kd.2.2.1] W HFT.out (zv rfl) (by decide) (HE.out.t.below hb HE.out.t.sz))
   obtain ⟨d9,hd9⟩:∃d:ByteArray,(⟨(Sx.lineT [Sx.sKind,Sx.bs kd.1,Sx.num kd.2.1,Sx.num kd.2.2.1]).toArray⟩:ByteArray)=d:=⟨_,rfl⟩
   rw [hd9] at CL
   have HD9:=aI (show d9.data.toList=Sx.lineT [Sx.sKind,Sx.bs kd.1,Sx.num kd.2.1,Sx.num kd.2.2.1] by rw [<-hd9])
   have HR1:=aI (Sx.src_step (l:=[Sx.sKind,Sx.bs kd.1,Sx.num kd.2.1,Sx.num kd.2.2.1]) HR0.out)
   have hds:acc.length+d9.size<=1000000:=by
    have h:=Sx.src_le HR1.out
    rw [aK,<-HD9.out,strLen] at h
    omega
   clear hd9 HFT HR0
   go_upto_region 7 with (first | (go_at_call 86;(with_reducible refine (CL.out _ T.out.bl).mono ?_);rintro e w2 ⟨rfl,hb2⟩;replace T:=aI (T.out.below hb2);clear hb2 z0 z1 z2) | (go_at_call 85;(with_reducible refine (writeString_any d9 T.out (by omega)).mono ?_);rintro e w3 ⟨rfl,M3,hT3,_⟩;replace T:=aI hT3;clear hT3))
   rw [HD9.out] at T
   obtain ⟨R2,hR2⟩:=aX (((Sc.kinds x).drop (k+1)).flatMap Sx.kndL++RK)
   rw [hR2] at HR1
   have HR2:=aI hR2
   generalize acc++Sx.lineT [Sx.sKind,Sx.bs kd.1,Sx.num kd.2.1,Sx.num kd.2.2.1]=acc1 at *
   have z3:=(T.out.box (.head _)).cell 3
   simp at z3
   replace T:=aI T.out.rest
   clear HD9 CL hR2 hds
   go_wp2_with fail
   clear z3
   go_loopg [45] nf (λr i wr=>∃(j:Nat) (acc:Sx.Txt) (M:List Nat),j+r=nf/\i=.int .i64 j/\acc++(((Sc.flds kd).drop j).map Sx.fldT++R2).flatMap Sx.lineT=S/\Bld w1 [] M [] ((λM W=>SlAt M W F (Sc.flds kd))::[λM W=>N∉M/\Blk W N 27 #[.int .i64 x.1,.slice (some ⟨b,o,none⟩) nk c,.slice B nl d,.slice C nr e],λM W=>SlAt M W (some ⟨b,o,none⟩) (Sc.kinds x),λM W=>SlAt M W B x.2.2.1,λM W=>SlAt M W C x.2.2.2]) Nb acc wr)
   case atStart=>exact ⟨0,acc1,_,by omega,rfl,HR1.out,T.out⟩
   case round =>
    clear HR1 T
    obtain ⟨j,acc,M,hj,rfl,hacc,hT⟩:=hrel
    obtain ⟨wi,rfl⟩:=aY wr
    have T:=aI hT
    clear hT
    by_cases hlt2:j < nf
    .have hjp:j < (Sc.flds kd).length:=by rw [HNF.out];exact hlt2
     have j0:(0:Int)<=(j:Int):=aa _
     have j1:(j:Int) < (nf:Int):=by omega
     have HR:=aI hacc
     rw [List.drop_eq_getElem_cons hjp,List.map_cons,zM] at HR
     have fb:=HKB.out.f _ (ze hjp)
     obtain ⟨b2,o2,us,rfl,_,hr,hc⟩:=(T.out.fact (.head _)).get j hjp
     obtain ⟨fd,hfd⟩:=aX ((Sc.flds kd)[j])
     rw [hfd] at HR fb hr
     have hr0:=hr
     obtain ⟨Aw,cw,Bw,dw,rfl,_⟩:=rep_fld hr0
     clear hr0
     rw [show Mem.sz Fld=8 from rfl] at hc
     obtain ⟨y0,y1,y2,y3,y4,y5,y6,y7⟩:=aG8 (m:=j*8) hc
     obtain ⟨Nf,hNf⟩:=aX wi.heap.size
     replace T:=aI ((T.out.add (keeps_rep fd _) hr).newBox #[.string (Sc.nm fd),.string (Sc.of_ fd),.string (Sc.up fd),.int .i64 (Sc.kd fd),.int .i64 (Sc.lo fd),.int .i64 (Sc.hi fd),.slice Aw (Sc.words fd).length cw,.slice Bw (Sc.wts fd).length dw] 65 hNf)
     have HFB:=aI fb
     clear hacc hfd hr hc fb
     go_upto_region 10 with fail
     generalize wi.alloc (.cells #[.string (Sc.nm fd),.string (Sc.of_ fd),.string (Sc.up fd),.int .i64 (Sc.kd fd),.int .i64 (Sc.lo fd),.int .i64 (Sc.hi fd),.slice Aw (Sc.words fd).length cw,.slice Bw (Sc.wts fd).length dw] 65)=w6 at *
     clear hNf y0 y1 y2 y3 y4 y5 y6 y7
     have hbk:=T.out.box (.head _)
     obtain ⟨z0,z1,z2,z3,z4,z5,z6,z7⟩:=aN8 hbk.cell
     simp at z0 z1 z2 z3 z4 z5 z6 z7
     clear hbk
     have CF:=aI (show Calls Tryz.prog 87 #[.agg #[.string (Sc.nm fd),.string (Sc.of_ fd),.string (Sc.up fd),.int .i64 (Sc.kd fd),.int .i64 (Sc.lo fd),.int .i64 (Sc.hi fd),.slice Aw (Sc.words fd).length cw,.slice Bw (Sc.wts fd).length dw]] w6 λe w'=>e=.returned (.string ⟨(Sx.lineT (Sx.fldT fd)).toArray⟩)/\Below w6.heap.size w6 w' from pfield_any fd _ w6 (Mem.sub (T.out.fact (.head _)) (λg hg=>by cases hg)) HFB.out (HE.out.to T.out.bl))
     obtain ⟨d9,hd9⟩:∃d:ByteArray,(⟨(Sx.lineT (Sx.fldT fd)).toArray⟩:ByteArray)=d:=⟨_,rfl⟩
     rw [hd9] at CF
     have HD9:=aI (show d9.data.toList=Sx.lineT (Sx.fldT fd) by rw [<-hd9])
     have HR1:=aI (Sx.src_step HR.out)
     have hds:acc.length+d9.size<=1000000:=by
      have h:=Sx.src_le HR1.out
      rw [aK,<-HD9.out,strLen] at h
      omega
     clear hd9 HR
     go_wp2_with (first | (go_at_call 87;(with_reducible refine CF.out.mono ?_);rintro e w2 ⟨rfl,hb2⟩;replace T:=aI (T.out.below hb2);clear hb2 z0 z1 z2 z3 z4 z5 z6 z7) | (go_at_call 85;(with_reducible refine (writeString_any d9 T.out (by omega)).mono ?_);rintro e w3 ⟨rfl,M3,hT3,_⟩;replace T:=aI hT3;clear hT3))
     rw [HD9.out] at T
     go_roundg (gk - 1)
     case measure=>omega
     case rel=>exact ⟨j+1,_,_,by omega,by go_num,HR1.out,T.out.rest.ltail⟩
    .have j1:¬(j:Int) < (nf:Int):=by omega
     rw [List.drop_eq_nil_of_le (by rw [HNF.out];omega),List.map_nil,zA,<-HR2.out] at hacc
     have HR:=aI hacc
     clear hacc
     go_wp2_with fail
     go_roundg (gq - 1)
     case measure=>omega
     case rel=>exact ⟨k+1,_,_,by omega,by go_num,HR.out,T.out.ltail⟩
  .have k1:¬(k:Int) < (nk:Int):=by omega
   rw [List.drop_eq_nil_of_le (by rw [HNK.out];omega),zZ,zA] at hacc
   rw [<-HRK.out] at hacc
   have HR:=aI hacc
   clear hacc
   obtain ⟨RR,hRR⟩:=aX (x.2.2.2.map Sx.rulL)
   rw [hRR] at HR
   have HRR:=aI hRR
   have hbk:=(T.out.fact (.head _)).2
   have z2:=hbk.cell 2
   simp at z2
   clear hbk hRR
   go_wp2_with fail
   clear z2 k1 hlt hk
   go_loopg [57] nl (λr i wr=>∃(k:Nat) (acc:Sx.Txt) (M:List Nat),k+r=nl/\i=.int .i64 k/\acc++((x.2.2.1.drop k).flatMap Sx.lifL++RR).flatMap Sx.lineT=S/\Bld w1 [] M [] [λM W=>N∉M/\Blk W N 27 #[.int .i64 x.1,.slice A nk c,.slice B nl d,.slice C nr e],λM W=>SlAt M W A (Sc.kinds x),λM W=>SlAt M W B x.2.2.1,λM W=>SlAt M W C x.2.2.2] Nb acc wr)
   case atStart=>exact ⟨0,acc,_,by omega,rfl,HR.out,T.out⟩
   case round =>
    clear HR T
    obtain ⟨k,acc,M,hk,rfl,hacc,hT⟩:=hrel
    obtain ⟨wo,rfl⟩:=aY wr
    obtain ⟨gq,rfl⟩:=aY gk
    have T:=aI hT
    clear hT
    by_cases hlt:k < nl
    .have hkp:k < x.2.2.1.length:=by rw [HNL.out];exact hlt
     have k0:(0:Int)<=(k:Int):=aa _
     have k1:(k:Int) < (nl:Int):=by omega
     have HR:=aI hacc
     rw [List.drop_eq_getElem_cons hkp,zR,zo] at HR
     have lb:=HOB.out.l _ (ze hkp)
     obtain ⟨b,o,us,rfl,_,hr,hc⟩:=(T.out.fact (.tail _ (.tail _ (.head _)))).get k hkp
     obtain ⟨ld,hld⟩:=aX (x.2.2.1[k])
     rw [hld] at HR lb hr
     obtain ⟨As,cs,Am,cm,rfl,hs1,hs2,_⟩:=rep_lif hr
     rw [show Mem.sz Lif=3 from rfl] at hc
     obtain ⟨c0,c1,c2⟩:=aG3 (m:=k*3) hc
     have HLB:=aI lb
     have hq1:=lb.nm;have hq2:=lb.n;have hq3:=lb.m
     obtain ⟨ns,hns⟩:=aX ld.2.1.length
     obtain ⟨nm,hnm⟩:=aX ld.2.2.length
     have HNS:=aI hns;have HNM:=aI hnm
     rw [hns] at c1 hq2;rw [hnm] at c2 hq3
     obtain ⟨Nl,hNl⟩:=aX wo.heap.size
     replace T:=aI (((T.out.add (keeps_sl Am ld.2.2) hs2).add (keeps_sl As ld.2.1) hs1).newBox #[.string ld.1,.slice As ns cs,.slice Am nm cm] 57 hNl)
     clear hns hnm hacc hld lb hr hc hs1 hs2
     go_upto_region 16 with fail
     generalize wo.alloc (.cells #[.string ld.1,.slice As ns cs,.slice Am nm cm] 57)=w5 at *
     clear hNl c0 c1 c2
     have hbk:=T.out.box (.head _)
     obtain ⟨z0,z1⟩:=aN2 hbk.cell
     simp at z0 z1
     clear hbk
     have HSS:=aI (show SlAt [] w5 As ld.2.1 from (T.out.fact (.head _)).sub (λg hg=>by cases hg))
     obtain ⟨Mr,hTR,_⟩:=((held0 w5 [] (λ_ h=>by cases h)).add (keeps_sl As ld.2.1) HSS.out).take (aP _ _) (World.ownsRow_lit (base:=w5.heap.size) (size:=1) (e:=20) w5 #[.iface 9 (.string ld.1),.iface 3 (.int .i64 (ns:Int))] 2 (ag _) (by decide) rfl)
     have TR:=aI (show HRow w5 [] Mr [] [λM W=>SlAt M W As ld.2.1] 20 1 (.slice (some ⟨w5.heap.size,0,none⟩) 2 2) 2 (avCells ([.s ld.1,.n (ns:Int)]++(ld.2.1.take 0).map Sx.Av.s)) _ from hTR)
     clear hTR
     go_upto_region 17 with fail
     generalize w5.alloc (.cells #[.iface 9 (.string ld.1),.iface 3 (.int .i64 (ns:Int))] 20)=w6 at *
     clear z0 z1
     have HB6:=aI TR.out.h.bl
     have z1:=((T.out.box (.head _)).below HB6.out (T.out.box (.head _)).lt).cell 1
     simp at z1
     go_wp2_with fail
     clear z1
     go_loopg [10,72] ns (λr v i wr=>∃(j:Nat) (M:List Nat),j+r=ns/\i=.int .i64 j/\HRow w5 [] M [] [λM W=>SlAt M W As ld.2.1] 20 1 v (2+j) (avCells ([.s ld.1,.n (ns:Int)]++(ld.2.1.take j).map Sx.Av.s)) wr)
     case atStart=>exact ⟨0,_,by omega,rfl,TR.out⟩
     case round =>
      clear TR HB6
      obtain ⟨j,M6,hj,rfl,hT⟩:=hrel
      obtain ⟨wi,rfl⟩:=aY wr
      have TR:=aI hT
      clear hT
      obtain ⟨A4,c4,rfl⟩:=zP TR.out.own
      by_cases hlt2:j < ns
      .have hjp:j < ld.2.1.length:=by rw [HNS.out];exact hlt2
       have j0:(0:Int)<=(j:Int):=aa _
       have j1:(j:Int) < (ns:Int):=by omega
       obtain ⟨b2,o2,rfl,_,d0,_⟩:=str_at (TR.out.h.fact (.head _)) j hjp
       have HX:=aI (show avCells ([.s ld.1,.n (ns:Int)]++(ld.2.1.take j).map Sx.Av.s)++[.iface 9 (.string ld.2.1[j])]=avCells ([.s ld.1,.n (ns:Int)]++(ld.2.1.take (j+1)).map Sx.Av.s) by
        rw [take_snoc' ld.2.1 j hjp,zY,<-zo];exact (avCells_append _ [Sx.Av.s ld.2.1[j]]).symm)
       generalize ld.2.1[j]=s0 at d0 HX
       obtain ⟨i0,hI,hz0,hz1,hz2⟩:=zq infoAny
       have HII:=aI (show _/\_/\_/\_ from ⟨hI,hz0,hz1,hz2⟩)
       clear hI hz0 hz1 hz2
       go_wp2_with (at_builtin;obtain ⟨hI,hz0,hz1,hz2⟩:=HII.out;refine wpList_append_row (by rfl) _ _ 128 (by rfl) 20 i0 _ 1 16 Tryz.underlying128 hI hz0 hz1 hz2 rfl (by decide) (TR.out.below (aP _ _)) (by rfl) _ _ 1 1 [.iface 9 (.string s0)] (by rfl) (reads_blk (zj _ _ _) rfl) (by simp [Value.oneCell']) (by unfold maxLen;omega) (by omega) ?_;intro v7 w7 M7 h7 _;rw [HX.out] at h7;replace TR:=aI h7;clear h7 hI hz0 hz1 hz2)
       go_roundg (gk - 1)
       case measure=>omega
       case rel=>exact ⟨j+1,_,by omega,by go_num,TR.out⟩
      .have j1:¬(j:Int) < (ns:Int):=by omega
       obtain rfl:j=ns:=by omega
       rw [List.take_of_length_le (Nat.le_of_eq HNS.out)] at TR
       have hfit:∀a∈([.s ld.1,.n (j:Int)]++ld.2.1.map Sx.Av.s:List Sx.Av),a.fit:=λa ha=>by
        rcases zE.1 ha with ha | ha
        .simp only [zB,zr,zQ] at ha
         rcases ha with rfl | rfl
         .exact (show ld.1.size<=100 by omega)
         .exact (show -1000000000<=(j:Int)/\(j:Int)<=1000000000 by omega)
        .obtain ⟨s,hs,rfl⟩:=List.mem_map.1 ha
         exact ah (HLB.out.s s hs) (by decide)
       have hfl:([.s ld.1,.n (j:Int)]++ld.2.1.map Sx.Av.s:List Sx.Av).length=2+j:=by rw [aK,zu,HNS.out];rfl
       obtain ⟨A5,c5,hv,hc1,hc2,hF⟩:=TR.out.freeze (α:=Sx.Av) (l:=[.s ld.1,.n (j:Int)]++ld.2.1.map Sx.Av.s) rfl hfl.symm (flat_avs hfit) (λg hg=>by cases hg)
       injection hv with hv1 hv2 hv3
       subst hv1 hv3
       have CL:=aI (line_any ⟨#[108,105,102,101]⟩ ([.s ld.1,.n (j:Int)]++ld.2.1.map Sx.Av.s) A4 c4 wi ((hF.fact (.head _)).sub (λg hg=>by cases hg)) (λa ha=>(hfit a ha).ok) (by rw [hfl];omega) (by decide) (HE.out.to (T.out.bl.trans (TR.out.h.bl.mono T.out.bl.size))).t)
       rw [hfl,show (Sx.bs ⟨#[108,105,102,101]⟩::([.s ld.1,.n (j:Int)]++ld.2.1.map Sx.Av.s:List Sx.Av).map Sx.Av.t)=(Sx.sLife::Sx.bs ld.1::Sx.num (j:Int)::ld.2.1.map Sx.bs) by rw [zY,List.map_map];rfl] at CL
       have HR0:=aI (show acc++((Sx.sLife::Sx.bs ld.1::Sx.num (j:Int)::ld.2.1.map Sx.bs)::((ld.2.2.map λm=>[Sx.sMove,Sx.num m.1,Sx.num m.2])++((x.2.2.1.drop (k+1)).flatMap Sx.lifL++RR))).flatMap Sx.lineT=S by rw [<-HR.out,<-HNS.out];rfl)
       obtain ⟨L9,hL9⟩:∃l:List Sx.Txt,(Sx.sLife::Sx.bs ld.1::Sx.num (j:Int)::ld.2.1.map Sx.bs)=l:=⟨_,rfl⟩
       rw [hL9] at CL HR0
       obtain ⟨d9,hd9⟩:∃d:ByteArray,(⟨(Sx.lineT L9).toArray⟩:ByteArray)=d:=⟨_,rfl⟩
       rw [hd9] at CL
       have HD9:=aI (show d9.data.toList=Sx.lineT L9 by rw [<-hd9])
       have HR1:=aI (Sx.src_step HR0.out)
       have hds:acc.length+d9.size<=1000000:=by
        have h:=Sx.src_le HR1.out
        rw [aK,<-HD9.out,strLen] at h
        omega
       replace T:=aI (T.out.below TR.out.h.bl)
       obtain ⟨n9,hn9⟩:=aX (2+j)
       rw [hn9] at CL ⊢
       clear hd9 HR0 hL9 hF hc1 hc2 hfit hfl hn9 TR
       go_upto_region 23 with (first | (go_at_call 86;(with_reducible refine CL.out.mono ?_);rintro e w2 ⟨rfl,hb2⟩;replace T:=aI (T.out.below hb2);clear hb2) | (go_at_call 85;(with_reducible refine (writeString_any d9 T.out (by omega)).mono ?_);rintro e w3 ⟨rfl,M3,hT3,_⟩;replace T:=aI hT3;clear hT3))
       rw [HD9.out] at T
       obtain ⟨R2,hR2⟩:=aX ((x.2.2.1.drop (k+1)).flatMap Sx.lifL++RR)
       rw [hR2] at HR1
       have HR2:=aI hR2
       generalize acc++Sx.lineT L9=acc1 at *
       have z2:=(T.out.box (.head _)).cell 2
       simp at z2
       replace T:=aI T.out.rest
       clear HD9 CL hR2 hds
       go_wp2_with fail
       clear z2
       go_loopg [88] nm (λr i wr=>∃(j:Nat) (acc:Sx.Txt) (M:List Nat),j+r=nm/\i=.int .i64 j/\acc++(((ld.2.2.drop j).map λm=>[Sx.sMove,Sx.num m.1,Sx.num m.2])++R2).flatMap Sx.lineT=S/\Bld w1 [] M [] ((λM W=>SlAt M W As ld.2.1)::(λM W=>SlAt M W Am ld.2.2)::[λM W=>N∉M/\Blk W N 27 #[.int .i64 x.1,.slice A nk c,.slice (some ⟨b,o,none⟩) nl d,.slice C nr e],λM W=>SlAt M W A (Sc.kinds x),λM W=>SlAt M W (some ⟨b,o,none⟩) x.2.2.1,λM W=>SlAt M W C x.2.2.2]) Nb acc wr)
       case atStart=>exact ⟨0,acc1,_,by omega,rfl,HR1.out,T.out⟩
       case round =>
        clear HR1 T
        obtain ⟨j,acc,M,hj,rfl,hacc,hT⟩:=hrel
        obtain ⟨wi,rfl⟩:=aY wr
        have T:=aI hT
        clear hT
        by_cases hlt2:j < nm
        .have hjp:j < ld.2.2.length:=by rw [HNM.out];exact hlt2
         have j0:(0:Int)<=(j:Int):=aa _
         have j1:(j:Int) < (nm:Int):=by omega
         have HR:=aI hacc
         rw [List.drop_eq_getElem_cons hjp,List.map_cons,zM] at HR
         have mb:=HLB.out.v _ (ze hjp)
         obtain ⟨b2,o2,us,rfl,_,hr,hc⟩:=(T.out.fact (.tail _ (.head _))).get j hjp
         obtain ⟨md,hmd⟩:=aX (ld.2.2[j])
         rw [hmd] at HR mb hr
         obtain ⟨rfl,_⟩:=rep_mv hr
         rw [show Mem.sz (Int × Int)=2 from rfl] at hc
         have c0:wi.cell? ⟨b2,o2+j*2,none⟩=some (.int .i64 md.1):=hc 0 _ rfl
         have c1:wi.cell? ⟨b2,o2+j*2+1,none⟩=some (.int .i64 md.2):=hc 1 _ rfl
         obtain ⟨Nm,hNm⟩:=aX wi.heap.size
         replace T:=aI (T.out.newBox #[.int .i64 md.1,.int .i64 md.2] 58 hNm)
         clear hacc hmd hr hc
         go_upto_region 26 with fail
         generalize wi.alloc (.cells #[.int .i64 md.1,.int .i64 md.2] 58)=w6 at *
         clear hNm c0 c1
         have hbk:=T.out.box (.head _)
         obtain ⟨z0,z1⟩:=aN2 hbk.cell
         simp at z0 z1
         clear hbk
         have HFT:=aI (show ∀a∈([.n md.1,.n md.2]:List Sx.Av),a.fit by
          intro a ha
          simp only [zB,zr,zQ] at ha
          rcases ha with rfl | rfl
          .exact (show -1000000000<=md.1/\md.1<=1000000000 by omega)
          .exact (show -1000000000<=md.2/\md.2<=1000000000 by omega))
         have CL:=aI (λ(W:World) (hb:Below w1.heap.size w1 W)=>show Calls Tryz.prog 86 #[.string ⟨#[109,111,118,101]⟩,.slice (some ⟨W.heap.size,0,none⟩) 2 2] (W.alloc (.cells #[.iface 3 (.int .i64 md.1),.iface 3 (.int .i64 md.2)] 20)) λe w'=>e=.returned (.string ⟨(Sx.lineT [Sx.sMove,Sx.num md.1,Sx.num md.2]).toArray⟩)/\Below W.heap.size W w' from line_new ⟨#[109,111,118,101]⟩ [.n md.1,.n md.2] W HFT.out (zv rfl) (by decide) (HE.out.t.below hb HE.out.t.sz))
         obtain ⟨d9,hd9⟩:∃d:ByteArray,(⟨(Sx.lineT [Sx.sMove,Sx.num md.1,Sx.num md.2]).toArray⟩:ByteArray)=d:=⟨_,rfl⟩
         rw [hd9] at CL
         have HD9:=aI (show d9.data.toList=Sx.lineT [Sx.sMove,Sx.num md.1,Sx.num md.2] by rw [<-hd9])
         have HR1:=aI (Sx.src_step (l:=[Sx.sMove,Sx.num md.1,Sx.num md.2]) HR.out)
         have hds:acc.length+d9.size<=1000000:=by
          have h:=Sx.src_le HR1.out
          rw [aK,<-HD9.out,strLen] at h
          omega
         clear hd9 HFT HR
         go_wp2_with (first | (go_at_call 86;(with_reducible refine (CL.out _ T.out.bl).mono ?_);rintro e w2 ⟨rfl,hb2⟩;replace T:=aI (T.out.below hb2);clear hb2 z0 z1) | (go_at_call 85;(with_reducible refine (writeString_any d9 T.out (by omega)).mono ?_);rintro e w3 ⟨rfl,M3,hT3,_⟩;replace T:=aI hT3;clear hT3))
         rw [HD9.out] at T
         go_roundg (gk - 1)
         case measure=>omega
         case rel=>exact ⟨j+1,_,_,by omega,by go_num,HR1.out,T.out.rest⟩
        .have j1:¬(j:Int) < (nm:Int):=by omega
         rw [List.drop_eq_nil_of_le (by rw [HNM.out];omega),List.map_nil,zA,<-HR2.out] at hacc
         have HR:=aI hacc
         clear hacc
         go_wp2_with fail
         go_roundg (gq - 1)
         case measure=>omega
         case rel=>exact ⟨k+1,_,_,by omega,by go_num,HR.out,T.out.ltail.ltail⟩
    .have k1:¬(k:Int) < (nl:Int):=by omega
     rw [List.drop_eq_nil_of_le (by rw [HNL.out];omega),zZ,zA] at hacc
     rw [<-HRR.out,<-zK (x.2.2.2.map Sx.rulL)] at hacc
     have HR:=aI hacc
     clear hacc
     have hbk:=(T.out.fact (.head _)).2
     have z3:=hbk.cell 3
     simp at z3
     clear hbk
     go_wp2_with fail
     clear z3 k1 hlt hk
     go_loopg [106] nr (λr i wr=>∃(k:Nat) (acc:Sx.Txt) (M:List Nat),k+r=nr/\i=.int .i64 k/\acc++((x.2.2.2.drop k).map Sx.rulL++[]).flatMap Sx.lineT=S/\Bld w1 [] M [] [λM W=>N∉M/\Blk W N 27 #[.int .i64 x.1,.slice A nk c,.slice B nl d,.slice C nr e],λM W=>SlAt M W A (Sc.kinds x),λM W=>SlAt M W B x.2.2.1,λM W=>SlAt M W C x.2.2.2] Nb acc wr)
     case atStart=>exact ⟨0,acc,_,by omega,rfl,HR.out,T.out⟩
     case round =>
      clear HR T
      obtain ⟨k,acc,M,hk,rfl,hacc,hT⟩:=hrel
      obtain ⟨wo,rfl⟩:=aY wr
      have T:=aI hT
      clear hT
      by_cases hlt:k < nr
      .have hkp:k < x.2.2.2.length:=by rw [HNR.out];exact hlt
       have k0:(0:Int)<=(k:Int):=aa _
       have k1:(k:Int) < (nr:Int):=by omega
       have HR:=aI hacc
       rw [List.drop_eq_getElem_cons hkp,List.map_cons,zM] at HR
       have rb:=HOB.out.r _ (ze hkp)
       obtain ⟨b,o,us,rfl,_,hr,hc⟩:=(T.out.fact (.tail _ (.tail _ (.tail _ (.head _))))).get k hkp
       obtain ⟨rd,hrd⟩:=aX (x.2.2.2[k])
       rw [hrd] at HR rb hr
       obtain ⟨rfl,_⟩:=rep_rul hr
       rw [show Mem.sz Rul=5 from rfl] at hc
       obtain ⟨c0,c1,c2,c3,c4⟩:=aG5 (m:=k*5) hc
       obtain ⟨Nr,hNr⟩:=aX wo.heap.size
       replace T:=aI (T.out.newBox #[.string rd.1,.string rd.2.1,.string rd.2.2.1,.string rd.2.2.2.1,.int .i64 rd.2.2.2.2] 60 hNr)
       have hq1:=rb.nm;have hq2:=rb.k;have hq3:=rb.a;have hq4:=rb.b;have hq5:=rb.n
       clear hacc hrd rb hr hc
       go_upto_region 32 with fail
       generalize wo.alloc (.cells #[.string rd.1,.string rd.2.1,.string rd.2.2.1,.string rd.2.2.2.1,.int .i64 rd.2.2.2.2] 60)=w5 at *
       clear hNr c0 c1 c2 c3 c4
       have HFT:=aI (show ∀a∈([.s rd.1,.s rd.2.1,.s (Sx.orN rd.2.2.1),.s (Sx.orN rd.2.2.2.1),.n rd.2.2.2.2]:List Sx.Av),a.fit by
        intro a ha
        simp only [zB,zr,zQ] at ha
        rcases ha with rfl | rfl | rfl | rfl | rfl
        .exact (show ByteArray.size rd.1<=100 by omega)
        .exact (show ByteArray.size rd.2.1<=100 by omega)
        .exact (show ByteArray.size (Sx.orN rd.2.2.1)<=100 from Sx.orN_sz (by omega) (by decide))
        .exact (show ByteArray.size (Sx.orN rd.2.2.2.1)<=100 from Sx.orN_sz (by omega) (by decide))
        .exact (show -1000000000<=rd.2.2.2.2/\rd.2.2.2.2<=1000000000 by omega))
       have HRL:=aI (show (Sx.bs ⟨#[114,117,108,101]⟩::([.s rd.1,.s rd.2.1,.s (Sx.orN rd.2.2.1),.s (Sx.orN rd.2.2.2.1),.n rd.2.2.2.2]:List Sx.Av).map Sx.Av.t)=Sx.rulL rd by
        show [_,_,_,Sx.bs (Sx.orN rd.2.2.1),Sx.bs (Sx.orN rd.2.2.2.1),_]=_
        rw [Sx.orN_list,Sx.orN_list];rfl)
       have CL:=aI (λ(g:Nat) (W:World) (hB:Blk W g 20 #[.iface 9 (.string rd.1),.iface 9 (.string rd.2.1),.iface 9 (.string (Sx.orN rd.2.2.1)),.iface 9 (.string (Sx.orN rd.2.2.2.1)),.iface 3 (.int .i64 rd.2.2.2.2)]) (hb:Below w1.heap.size w1 W)=>show Calls Tryz.prog 86 #[.string ⟨#[114,117,108,101]⟩,.slice (some ⟨g,0,none⟩) 5 5] W λe w'=>e=.returned (.string ⟨(Sx.lineT (Sx.bs ⟨#[114,117,108,101]⟩::([.s rd.1,.s rd.2.1,.s (Sx.orN rd.2.2.1),.s (Sx.orN rd.2.2.2.1),.n rd.2.2.2.2]:List Sx.Av).map Sx.Av.t)).toArray⟩)/\Below W.heap.size W w' from line_any ⟨#[114,117,108,101]⟩ [.s rd.1,.s rd.2.1,.s (Sx.orN rd.2.2.1),.s (Sx.orN rd.2.2.2.1),.n rd.2.2.2.2] (some ⟨g,0,none⟩) 5 W (SlAt.of_blk (flat_avs HFT.out) hB (by simp)) (λa ha=>(HFT.out a ha).ok) (zv rfl) (by decide) (HE.out.to hb).t)
       rw [HRL.out] at CL
       have CN1:=aI (λw=>named_any rd.2.2.1 w)
       have CN2:=aI (λw=>named_any rd.2.2.2.1 w)
       obtain ⟨d9,hd9⟩:∃d:ByteArray,(⟨(Sx.lineT (Sx.rulL rd)).toArray⟩:ByteArray)=d:=⟨_,rfl⟩
       rw [hd9] at CL
       have HD9:=aI (show d9.data.toList=Sx.lineT (Sx.rulL rd) by rw [<-hd9])
       have HR1:=aI (Sx.src_step HR.out)
       have hds:acc.length+d9.size<=1000000:=by
        have h:=Sx.src_le HR1.out
        rw [aK,<-HD9.out,strLen] at h
        omega
       have HBK:=aI (T.out.box (.head _))
       clear hd9 HR HFT HRL
       go_wp2_with fail
       apply zy (C:=λw'=>Below w5.heap.size w5 w') (n:=132) (m:=19) (l1:=[_,_,_,_,_,_,_,_,_,_,_,_,_,_,_,_,_,_,_]) (l2:=[_]);rfl;rfl;kernel_rfl;rfl;kernel_rfl;exact ⟨rfl,rfl,rfl,ag _,λ_ _=>rfl⟩;exact aR
       iterate 8 ((apply aJ;·(intro w' hC hf;obtain ⟨c0,c1,c2,c3,c4⟩:=aM5 (HBK.out.below hC HBK.out.lt);clear hf hC;go_wp2_with (fail);apply aO;simp only [zC];exact rfl));(try simp only [zn]))
       (apply aJ;·(intro w' hC hf;clear hf hC;go_wp2_with (go_at_call 88;(with_reducible refine (CN1.out _).mono ?_);rintro e w2 ⟨rfl,hb2⟩);apply postT_val rfl (by assumption);simp only [zC];exact rfl));(try simp only [zn])
       iterate 3 ((apply aJ;·(intro w' hC hf;obtain ⟨c0,c1,c2,c3,c4⟩:=aM5 (HBK.out.below hC HBK.out.lt);clear hf hC;go_wp2_with (fail);apply aO;simp only [zC];exact rfl));(try simp only [zn]))
       (apply aJ;·(intro w' hC hf;clear hf hC;go_wp2_with (go_at_call 88;(with_reducible refine (CN2.out _).mono ?_);rintro e w2 ⟨rfl,hb2⟩);apply postT_val rfl (by assumption);simp only [zC];exact rfl));(try simp only [zn])
       iterate 4 ((apply aJ;·(intro w' hC hf;obtain ⟨c0,c1,c2,c3,c4⟩:=aM5 (HBK.out.below hC HBK.out.lt);clear hf hC;go_wp2_with (fail);apply aO;simp only [zC];exact rfl));(try simp only [zn]))
       apply zF (slBlk_kept 5 20 #[.iface 9 (.string rd.1),.iface 9 (.string rd.2.1),.iface 9 (.string (Sx.orN rd.2.2.1)),.iface 9 (.string (Sx.orN rd.2.2.2.1)),.iface 3 (.int .i64 rd.2.2.2.2)])
       .intro w' hC hf;unfold Gives;clear hf hC;go_wp2_with fail;apply zJ rfl (by go_grown);simp only [zC];exact ⟨_,rfl,zj _ _ _⟩
       intro vsl;(try simp only [zn])
       (apply aJ;·(intro w' hC hf;obtain ⟨g,rfl,hB⟩:=hf.1 rfl;have CQ:=aI (CL.out g w' hB (T.out.bl.trans (hC.mono T.out.bl.size)));clear hf hC hB;go_wp2_with (go_at_call 86;(with_reducible refine CQ.out.mono ?_);rintro e w2 ⟨rfl,hb2⟩);apply postT_val rfl (by assumption);simp only [zC];exact rfl));(try simp only [zn])
       apply wpT_done
       intro w8 hC _
       replace T:=aI (T.out.below hC)
       clear hC
       go_wp2_with (go_at_call 85;(with_reducible refine (writeString_any d9 T.out (by omega)).mono ?_);rintro e w3 ⟨rfl,M3,hT3,_⟩;replace T:=aI hT3;clear hT3)
       rw [HD9.out] at T
       go_roundg (gk - 1)
       case measure=>omega
       case rel=>exact ⟨k+1,_,_,by omega,by go_num,HR1.out,T.out.rest⟩
      .have k1:¬(k:Int) < (nr:Int):=by omega
       rw [List.drop_eq_nil_of_le (by rw [HNR.out];omega),List.map_nil,zA,zZ,zK] at hacc
       subst hacc
       go_wp2_with (go_at_call 89;(with_reducible refine (bldString_any T.out).mono ?_);rintro e w8 ⟨rfl,hb8⟩;have HBO:=aI (HB.out.trans ((T.out.bl.trans hb8).mono HB.out.size));clear hb8)
       go_ret
       exact ⟨by rw [HS.out];rfl,HBO.out⟩
end
end Go.Proofs.YtobcnhmhgoccnaaGreatDoor
