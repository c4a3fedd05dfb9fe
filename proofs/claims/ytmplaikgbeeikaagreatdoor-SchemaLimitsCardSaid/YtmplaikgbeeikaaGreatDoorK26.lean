/- Parts of the proof, joined: SxN0, SxN1, SxN2, SxN3, SxN4, SxNc. -/
import Derived.Test.YtmplaikgbeeikaaGreatDoorK3
import Derived.Test.YtmplaikgbeeikaaGreatDoorK6
import Derived.Test.YtmplaikgbeeikaaGreatDoorK25
import Derived.Laws.IdiomStrings
import Derived.ArgAppend
set_option linter.unusedVariables false
set_option linter.unusedSimpArgs false
set_option linter.unusedSectionVars false
namespace Go.Proofs.YtmplaikgbeeikaaGreatDoor
open Go Go.RowKit
theorem conv_bytes (s:ByteArray) (w:World):∃ W4 c,(convert 9 73 (.string s)).run Tryz.prog w=.ok (.slice (some ⟨w.heap.size,0,none⟩) s.size c) W4∧Below w.heap.size w W4∧Reads W4 W4.heap.size 1 (some ⟨w.heap.size,0,none⟩) s.size (byteVals s.data.toList):=by
 have hcv:=run_bytes_of_string (P:=Tryz.prog) w 9 73 5 s Tryz.underlying9 Tryz.underlying73 Tryz.underlying5
 obtain ⟨cap,hcap⟩:∃ cap,grownCap w s.size 0 5=cap:=⟨_,rfl⟩
 rw [hcap] at hcv
 have hsz:(w.drew.alloc (.cells (bytesRow s cap) 5 ((bytesRow s cap).size,(bytesRow s cap).size+1))).heap.size=w.heap.size+1:=by
  show (w.heap.push _).size=_
  rw [Array.size_push]
 refine ⟨_,cap,hcv,?_,?_⟩
 ·exact (show Below w.heap.size w w.drew from ⟨rfl,rfl,rfl,Nat.le_refl _,fun _ _=>rfl⟩).alloc (Nat.le_refl _) _
 ·have hl:s.data.toList.length=s.size:=by rw [Array.length_toList];rfl
  refine ⟨by unfold byteVals;rw [List.length_map,hl,Nat.mul_one],fun _=>⟨_,rfl,by rw [hsz];exact Nat.lt_succ_self _,fun j u hu=>?_⟩⟩
  have hj:j < s.size:=by
   have:=(List.getElem?_eq_some_iff.1 hu).1
   unfold byteVals at this;rw [List.length_map,hl] at this;exact this
  have h1:=(cell_of_row (w.drew.alloc (.cells (bytesRow s cap) 5 ((bytesRow s cap).size,(bytesRow s cap).size+1))) w.heap.size j (bytesRow s cap) 5 ((bytesRow s cap).size,(bytesRow s cap).size+1) (heap_alloc_new w.drew _)).trans (bytesRow_at s cap j hj)
  rw [show ((⟨w.heap.size,0,none⟩:Addr).add j)=⟨w.heap.size,j,none⟩ by simp [Addr.add];exact fun h=>h.symm]
  refine h1.trans ?_
  rw [← hu]
  unfold byteVals
  rw [List.getElem?_map,List.getElem?_eq_getElem (by omega)]
  rfl
set_option maxRecDepth 100000 in
set_option maxHeartbeats 4000000 in
theorem rBytes_any (s:ByteArray) (w:World) (hs:s.size≤1000000):Calls Tryz.prog 100 #[.string s] w (BytesP (Sx.encB s) w):=by
 obtain ⟨i0,hi,hz0,hz1,hz2⟩:=info_parts infoU8
 have T0:=aI (held0 w [] (fun _ h=>by cases h))
 have CI:=aI (rInt_any (s.size:Int) w (by unfold inI;omega))
 have HCV:=aI (conv_bytes s)
 have hl:s.data.toList.length=s.size:=by rw [Vm.strLn]
 have hil:=En.int_le (s.size:Int)
 obtain ⟨m,hm⟩:∃ m,(En.int (s.size:Int)).length=m:=⟨_,rfl⟩
 have HEQ:=aI (show En.int (s.size:Int)++s.data.toList=Sx.encB s by rfl)
 have HLE:=aI (show m+s.size=(Sx.encB s).length by rw [← HEQ.out,aK,hm,hl])
 unfold BytesP at CI
 rw [hm] at CI hil
 clear hm hl
 go_enter Tryz.func100,Tryz.ntmps100
 go_wp2_with (first | (go_at_call 99;go_loud ((with_reducible refine (CI.out).mono ?_);rintro e w1 ⟨v,rfl,hown,hb⟩;obtain ⟨M1,h1,_⟩:=T0.out.take hb hown;have T:=aI h1;clear h1 hown hb;obtain ⟨W4,cp,hcv,hb4,hrd⟩:=HCV.out w1;replace T:=aI (T.out.below hb4);have HR:=aI hrd;clear hb4 hrd)) | (at_builtin;go_loud (refine wpList_append_row (by rfl) _ _ 73 (by rfl) 5 i0 _ 1 1 Tryz.underlying73 hi hz0 hz1 hz2 rfl (by decide) T.out (by rfl) _ _ s.size _ (byteVals s.data.toList) (by rfl) HR.out (byteVals_one _) (by unfold maxLen;omega) (by omega) ?_;intro v5 w5 M5 h5 _;rw [← byteVals_append,HEQ.out,HLE.out] at h5;replace T:=aI h5;clear h5)))
 go_ret
 exact ⟨_,rfl,T.out.own,T.out.h.bl⟩
end Go.Proofs.YtmplaikgbeeikaaGreatDoor
namespace Go.Proofs.YtmplaikgbeeikaaGreatDoor
open Go Go.RowKit
namespace Sx
def accS (l:List ByteArray) (k:Nat):Txt:=En.int l.length++((l.take k).map encB).flatten
theorem encB_le {s:ByteArray} {b:Nat} (h:s.size≤b):(encB s).length≤b+9:=by
 unfold encB bs
 have:=En.int_le (s.size:Int)
 rw [aK,Vm.strLn];omega
theorem accS_le {l:List ByteArray} {b:Nat} (h:∀ s∈l,s.size≤b):∀ k,(accS l k).length≤(b+9)*(k+1):=by
 intro k
 have h1:∀ m:List ByteArray,(∀ s∈m,s.size≤b)→(m.map encB).flatten.length≤(b+9)*m.length:=by
  intro m hm
  induction m with
  | nil=>simp
  | cons s m ih =>
   have h2:=encB_le (hm s (.head _))
   have h3:=ih fun t ht=>hm t (.tail _ ht)
   rw [List.map_cons,List.flatten_cons,aK,List.length_cons,Nat.mul_succ];omega
 have h2:=h1 (l.take k) fun s hs=>h s (List.mem_of_mem_take hs)
 have h3:(b+9)*(l.take k).length≤(b+9)*k:=Nat.mul_le_mul_left _ (by rw [List.length_take];omega)
 have h4:=En.int_le (l.length:Int)
 unfold accS
 rw [aK,Nat.mul_succ];omega
theorem accS_snoc (l:List ByteArray) (k:Nat) (h:k < l.length):accS l k++encB l[k]=accS l (k+1):=by
 unfold accS;rw [take_snoc' l k h,List.map_append,List.flatten_append,List.append_assoc];simp
theorem accS_all (l:List ByteArray):accS l l.length=encS l:=by unfold accS encS;rw [List.take_length]
theorem accS_zero (l:List ByteArray):accS l 0=En.int l.length:=by unfold accS;simp
end Sx
set_option maxRecDepth 100000 in
set_option maxHeartbeats 4000000 in
theorem rStrings_any (l:List ByteArray) (A:Option Addr) (c:Nat) (w:World) (hl:SlAt [] w A l) (hm:l.length≤1000) (hs:∀ s∈l,s.size≤100000):Calls Tryz.prog 102 #[.slice A l.length c] w (BytesP (Sx.encS l) w):=by
 obtain ⟨i0,hi,hz0,hz1,hz2⟩:=info_parts infoU8
 obtain ⟨n,hn⟩:∃ n,l.length=n:=⟨_,rfl⟩
 rw [hn]
 rw [hn] at hm
 have T0:=aI ((held0 w [] (fun _ h=>by cases h)).add (keeps_sl A l) hl)
 have HN:=aI hn
 have CI:=aI (rInt_any (n:Int) w (by unfold inI;omega))
 have HZ:=aI (show En.int (n:Int)=Sx.accS l 0 by rw [Sx.accS_zero,hn])
 have HEND:=aI (show Sx.accS l n=Sx.encS l by rw [← hn];exact Sx.accS_all l)
 have HS:=aI hs
 clear hl hn hs
 go_enter Tryz.func102,Tryz.ntmps102
 go_wp2_with (go_at_call 99;((with_reducible refine (CI.out).mono ?_));rintro e w1 ⟨v,rfl,hown,hb⟩;obtain ⟨M1,h1,_⟩:=T0.out.take hb hown;have T:=aI h1;clear h1 hown hb)
 rw [HZ.out] at T
 go_loopg [3,4] n (fun r v i wr=>∃ (k:Nat) (M:List Nat),k+r=n∧i=.int .i64 k∧HRow w [] M [] [fun M W=>SlAt M W A l] 5 1 v (Sx.accS l k).length (byteVals (Sx.accS l k)) wr)
 case atStart=>exact ⟨0,_,by omega,rfl,T.out⟩
 case round =>
  obtain ⟨k,M,hk,rfl,hH⟩:=hrel
  obtain ⟨wo,rfl⟩:∃ wo:World,wo=wr:=⟨_,rfl⟩
  replace T:=aI hH
  clear hH
  by_cases hlt:k < n
  ·have hkl:k < l.length:=by rw [HN.out];exact hlt
   have k0:(0:Int)≤(k:Int):=Int.natCast_nonneg _
   have k1:(k:Int) < (n:Int):=by omega
   obtain ⟨b,o,rfl,_,c0,_⟩:=str_at (T.out.h.fact (.head _)) k hkl
   have HSN:=aI (Sx.accS_snoc l k hkl)
   have hle:=Sx.accS_le HS.out k
   have hsz:=HS.out _ (List.getElem_mem hkl)
   obtain ⟨x,hxx⟩:∃ x,l[k]=x:=⟨_,rfl⟩
   rw [hxx] at c0 hsz HSN
   have CX:=aI (rBytes_any x wo (by omega))
   have hxl:=Sx.encB_le hsz
   obtain ⟨na,hna⟩:∃ n,(Sx.accS l k).length=n:=⟨_,rfl⟩
   obtain ⟨nb,hnb⟩:∃ n,(Sx.encB x).length=n:=⟨_,rfl⟩
   rw [hna] at hle T
   rw [hnb] at hxl
   have HNL:=aI (show na+nb=(Sx.accS l (k+1)).length by rw [← HSN.out,aK,hna,hnb])
   unfold BytesP at CX
   rw [hnb] at CX
   have hle2:na≤200000000:=by
    have:(100000+9)*(k+1)≤(100000+9)*1000:=Nat.mul_le_mul_left _ (by omega)
    omega
   clear hna hnb hxx hle
   go_wp2_with (first | (go_at_call 100;((with_reducible refine (CX.out).mono ?_));rintro e w1 ⟨v,rfl,hown,hb⟩;obtain ⟨Ab,cb,rfl⟩:=own_form hown;replace T:=aI (T.out.below hb);have HR:=aI (reads_own hown);clear hown hb) | (at_builtin;refine wpList_append_row (by rfl) _ _ 73 (by rfl) 5 i0 _ 1 1 Tryz.underlying73 hi hz0 hz1 hz2 rfl (by decide) T.out (by rfl) _ _ nb _ (byteVals (Sx.encB x)) (by rfl) HR.out (byteVals_one _) (by unfold maxLen;omega) (by omega) ?_;intro v5 w5 M5 h5 _;rw [← byteVals_append,HSN.out,HNL.out] at h5;replace T:=aI h5;clear h5))
   go_roundg (gk - 1)
   case measure=>omega
   case rel=>exact ⟨k+1,_,by omega,by go_num,T.out⟩
  ·have hkn:k=n:=by omega
   subst hkn
   rw [HEND.out] at T
   go_wp2_with fail
   go_ret
   exact ⟨_,rfl,T.out.own,T.out.h.bl⟩
structure EG (g:Nat) (te:TypeId) (n8:Nat) (us:List Value) (W W':World):Prop where
 os:W'.os=W.os
 tape:W'.tape=W.tape
 output:W'.output=W.output
 size:W.heap.size≤W'.heap.size
 old:∀ k,k < W.heap.size→k≠g→W'.heap[k]?=W.heap[k]?
 late:∀ cur,Blk W g te cur→∃ cur',Blk W' g te cur'∧Late n8 us cur cur'
section
variable {g:Nat} {te:TypeId} {n8:Nat} {us:List Value} {W W' W'':World}
theorem EG.refl (g:Nat) (te:TypeId) (n8:Nat) (us:List Value) (W:World):EG g te n8 us W W:=⟨rfl,rfl,rfl,Nat.le_refl _,fun _ _ _=>rfl,fun cur h=>⟨cur,h,Late.refl _ _ _⟩⟩
theorem EG.trans (h:EG g te n8 us W W') (k:EG g te n8 us W' W''):EG g te n8 us W W'' :=
 ⟨k.os.trans h.os,k.tape.trans h.tape,k.output.trans h.output,Nat.le_trans h.size k.size,fun i hi hg=>(k.old i (Nat.lt_of_lt_of_le hi h.size) hg).trans (h.old i hi hg),fun cur hb=>by
  obtain ⟨c1,h1,h2⟩:=h.late cur hb
  obtain ⟨c2,h3,h4⟩:=k.late c1 h1
  exact ⟨c2,h3,h2.trans h4⟩⟩
theorem EG.below (h:Below W.heap.size W W'):EG g te n8 us W W':=⟨h.os,h.tape,h.output,h.size,fun k hk _=>h.block k hk,fun cur hb=>⟨cur,(h.block g hb.lt).trans hb,Late.refl _ _ _⟩⟩
@[reducible] def earlyGrow (g:Nat) (te:TypeId) (n8:Nat) (us:List Value):Grow:=⟨EG g te n8 us,EG.refl g te n8 us,EG.trans,EG.below⟩
theorem EG.chg (h:EG g te n8 us W W'):Chg [g] W W':=⟨h.os,h.tape,h.output,h.size,fun k hk hg=>h.old k hk (by simpa using hg)⟩
theorem EG.blk (h:EG g te n8 us W W') {N:Nat} {t:TypeId} {cs:Array Value} (hb:Blk W N t cs) (hN:N≠g):Blk W' N t cs:=(h.old N hb.lt hN).trans hb
def RowE (B0 g:Nat) (te:TypeId) (size n:Nat) (xs:List Value) (v:Value) (w:World):Prop:=∃ g' cap cur,v=.slice (some ⟨g',0,none⟩) n cap∧(g'=g∨B0≤g')∧Blk w g' te cur∧n≤cap∧cap≤maxLen∧cur.size=cap*size∧cur.toList.take (n*size)=xs
theorem rowE_kept {B0 size n:Nat} {xs:List Value} (hx:∀ j u,n8≤j→xs[j]?=some u→us[j - n8]?=some u):@RG.Kept (earlyGrow g te n8 us) (RowE B0 g te size n xs):=by
 rintro v w w' ⟨g',cap,cur,h1,h2,h3,h4,h5,h6,h7⟩ hr
 have hr:EG g te n8 us w w':=hr
 by_cases hg:g'=g
 ·subst hg
  obtain ⟨c2,e3,e4⟩:=hr.late cur h3
  refine ⟨g',cap,c2,h1,h2,e3,h4,h5,e4.1.trans h6,?_⟩
  rw [← h7]
  refine List.ext_getElem? fun j=>?_
  rw [List.getElem?_take,List.getElem?_take]
  split
  ·rename_i hj
   rw [Array.getElem?_toList,Array.getElem?_toList]
   rcases e4.2 j with e | ⟨e,u,f1,f2⟩
   ·exact e
   ·have hlt:j < cur.size:=by have:=(Array.getElem?_eq_some_iff.1 f2).1;have:=e4.1;omega
    have hxj:xs[j]?=some cur[j]:=by
     rw [← h7,List.getElem?_take,if_pos hj,Array.getElem?_toList];simp [hlt]
    have:=hx j _ e hxj
    rw [f1] at this
    injection this with this
    rw [f2,this];simp [hlt]
  ·rfl
 ·exact ⟨g',cap,cur,h1,h2,hr.blk h3 hg,h4,h5,h6,h7⟩
theorem RowE.owns {B0 base size n:Nat} {xs:List Value} {v:Value} {w:World} (h:RowE B0 g te size n xs v w) (hl:xs.length=n*size) (h1:base≤g) (h2:base≤B0):w.ownsRow base te size v n xs:=by
 obtain ⟨g',cap,cur,k1,k2,k3,k4,k5,k6,k7⟩:=h
 exact ⟨hl,.inr ⟨g',cap,cur,k1,by omega,k3,k4,k5,k6,k7⟩⟩
theorem Held.early {w:World} {G M:List Nat} {bx:List Box} {L:List (List Nat→World→Prop)} {v:Value} (h:Held w G M bx L W) (hv:RowOk w M bx v) (hg:v.ownBlock=some g) (hc:EG g te n8 us W W'):Held w G M bx L W':=by
 obtain ⟨g1,g2,g3⟩:=hv g hg
 have hch:Chg M W W':=hc.chg.mono fun k hk=>.inl (by obtain rfl:=List.mem_singleton.1 hk;exact g1)
 have hs:=h.bl.size
 refine ⟨⟨hc.os.trans h.bl.os,hc.tape.trans h.bl.tape,hc.output.trans h.bl.output,Nat.le_trans hs hc.size,fun k hk=>(hc.old k (by omega) (by omega)).trans (h.bl.block k hk)⟩,fun k hk=>Nat.lt_of_lt_of_le (h.mb k hk) hc.size,h.gm,fun x hx=>⟨(h.bs x hx).1,(h.bs x hx).2.1,hc.blk (h.bs x hx).2.2 (g3 x hx)⟩,h.nd,fun P hP=>⟨(h.all P hP).1,(h.all P hP).1.1 _ _ _ (h.all P hP).2 hch⟩⟩
theorem HRow.early {w:World} {G M:List Nat} {bx:List Box} {L:List (List Nat→World→Prop)} {size n n':Nat} {v v':Value} {xs xs':List Value} (T:HRow w G M bx L te size v n xs W) (hg:v.ownBlock=some g) (hc:EG g te n8 us W W') (hr:RowE W.heap.size g te size n' xs' v' W') (hl:xs'.length=n'*size):∃ M',HRow w G M' bx L te size v' n' xs' W':=by
 have hH:=T.h.early T.ok hg hc
 obtain ⟨g1,g2,g3⟩:=T.ok g hg
 have hs:=T.h.bl.size
 have ho:=hr.owns hl g2 hs
 obtain ⟨g',cap,cur,rfl,k2,k3,k4,k5,k6,k7⟩:=hr
 by_cases hgg:g'=g
 ·subst hgg
  exact ⟨M,hH,fun k hk=>T.ok k (by rw [hg];exact hk),ho⟩
 ·have hB:W.heap.size≤g':=by omega
  refine ⟨g'::M,⟨hH.bl,fun k hk=>?_,fun k hk=>.tail _ (T.h.gm k hk),fun x hx=>⟨.tail _ (hH.bs x hx).1,(hH.bs x hx).2⟩,hH.nd,fun P hP=>⟨(T.h.all P hP).1,?_⟩⟩,fun k hk=>?_,ho⟩
  ·rcases aL hk with rfl | hk
   ·exact k3.lt
   ·exact hH.mb k hk
  ·refine (T.h.all P hP).1.1 _ _ _ ((T.h.all P hP).1.2 M (g'::M) _ (T.h.all P hP).2 fun k hk=>?_) (hc.chg.mono fun k hk=>.inl ?_)
   ·rcases aL hk with rfl | hk
    ·exact .inr hB
    ·exact .inl hk
   ·obtain rfl:=List.mem_singleton.1 hk
    exact .tail _ g1
  ·have hk':g'=k:=Option.some.inj hk
   rw [← hk']
   exact ⟨.head _,by omega,fun x hx=>by have:=(T.h.bs x hx).2.2.lt;omega⟩
variable {P:Program}
theorem wpList_append_early {ops:Array Oper} {rest:List Oper} {o:Oper} {a:Act} {Q:Exit→Act→World→Prop} {w:World} (hgd:o.guard=none) (s x:Operand) (tt:TypeId)
  (ho:o.op=.call { callee:=.builtin .append,args:=#[s,x],argTypes:=#[tt,tt] })
  (i:TypeInfo) (z:Value) (size bytes:Nat) (ht:P.underlying tt=some (.slice te)) (hi:P.info? te=some i) (hz:i.zero=some z)
  (hsize:i.size=size) (hby:i.bytes=bytes) (hzs:z.cells.size=size) (hsz:0 < size)
  {B0 cap n:Nat} {cur:Array Value} {xs:List Value} (hs:a.eval s=.slice (some ⟨g,0,none⟩) n cap) (h3:Blk w g te cur) (_h4:n≤cap) (h5:cap≤maxLen) (h6:cur.size=cap*size) (h7:cur.toList.take (n*size)=xs) (hxs:xs.length=n*size)
  {B:Nat} {ad:Addr} {m c:Nat} (hx:a.eval x=.slice (some ad) m c) (hr:Reads w B size (some ad) m us) (hm0:0 < m) (h1:∀ u∈us,u.oneCell'=true)
  (hn8:n8=n*size) (hB:B0≤w.heap.size)
  (h63:n+m≤maxLen) (hbytes:(n+m)*bytes≤140737488355328)
  (h:∀ v' w',RowE B0 g te size (n+m) (xs++us) v' w'→EG g te n8 us w w'→wpList P ops Q rest (a.put o.dst v') w'):wpList P ops Q (o::rest) a w:=by
 subst hn8
 obtain ⟨hm,hcs⟩:=hr
 obtain ⟨ad',had,_,hlit⟩:=hcs hm0
 obtain rfl:=Option.some.inj had
 have hcell:∀ j u,xs[j]?=some u→w.cell? ⟨g,0+j,none⟩=some u:=fun j u hu=>by
  rw [Nat.zero_add,h3.cell]
  have hj:=(List.getElem?_eq_some_iff.1 hu).1
  rw [← h7,List.getElem?_take,if_pos (by omega),Array.getElem?_toList] at hu
  exact hu
 refine wpList_append_arg w hgd s x tt ho te i z size bytes ht hi hz hsize hby hzs hsz g 0 n cap xs hs hxs hcell ad m c us hx hm hlit h1 (fun hr j hj=>?_) h63 hbytes (fun hr=>?_) (fun hr v' w' k1 k2=>?_)
 ·rw [h3.cell,h3.frozen]
  refine ⟨?_,rfl⟩
  have:(n+m)*size≤cap*size:=Nat.mul_le_mul_right _ hr
  rw [Nat.add_mul] at this
  have hlt:0+n*size+j < cur.size:=by omega
  simp
  omega
 ·have hsp:(n+m)*size≤cap*size:=Nat.mul_le_mul_right _ hr
  rw [Nat.add_mul] at hsp
  obtain ⟨cs',b1,b2,b3,b4⟩:=blk_setCells us (0+n*size) w cur h3
  obtain ⟨z1,z2⟩:=setCells_sizes g us (0+n*size) w
  rw [Nat.zero_add] at b1 b3 b4 z1 z2 ⊢
  refine h _ _ ⟨g,cap,cs',rfl,.inl rfl,b1,hr,h5,b2.trans h6,?_⟩ ⟨World.os_setCells ..,z2,World.output_setCells ..,by rw [z1];exact Nat.le_refl _,fun k hk hg=>World.heap_setCells_other w g _ us hk hg,fun c hc=>⟨cs',b1,?_⟩⟩
  ·refine List.ext_getElem? fun j=>?_
   rw [List.getElem?_take]
   by_cases hj:j < (n+m)*size
   ·rw [if_pos hj,Array.getElem?_toList]
    rw [Nat.add_mul] at hj
    by_cases hjn:j < n*size
    ·rw [b3 j (.inl hjn),List.getElem?_append_left (by omega),← h7,List.getElem?_take,if_pos hjn,Array.getElem?_toList]
    ·rw [List.getElem?_append_right (by omega),hxs]
     have:=b4 (j - n*size) (by omega) (by omega)
     rw [show n*size+(j - n*size)=j by omega] at this
     exact this
   ·rw [if_neg hj,List.getElem?_eq_none]
    rw [aK,hxs,hm,← Nat.add_mul];omega
  ·have hcc:c=cur:=by
    have:=hc.symm.trans h3
    injection this with this
    injection this
   subst hcc
   refine ⟨b2,fun j=>?_⟩
   by_cases hjn:j < n*size
   ·exact .inl (b3 j (.inl hjn))
   ·by_cases hjm:j < n*size+us.length
    ·by_cases hjc:j < c.size
     ·right
      have:=b4 (j - n*size) (by omega) (by omega)
      rw [show n*size+(j - n*size)=j by omega] at this
      refine ⟨by omega,us[j - n*size]'(by omega),List.getElem?_eq_getElem (by omega),?_⟩
      rw [this,List.getElem?_eq_getElem (by omega)]
     ·left
      rw [Array.getElem?_eq_none (by omega),Array.getElem?_eq_none (by omega)]
    ·exact .inl (b3 j (.inr (by omega)))
 ·have hbl:Below w.heap.size w w':=⟨k2.os,k2.tape,k2.output,k2.size,fun k hk=>k2.block k hk (by simp)⟩
  rcases k1.2 with ⟨h0,_⟩ | ⟨g',cap',cur',e1,e2,e3,e4,e5,e6,e7⟩
  ·omega
  ·exact h v' w' ⟨g',cap',cur',e1,.inr (Nat.le_trans hB e2),e3,e4,e5,e6,e7⟩ (EG.below hbl)
end
section
variable {g B0:Nat} {te:TypeId} {n8:Nat} {us:List Value}
theorem rowN_keptE {te':TypeId} {size n:Nat} {xs:List Value} (hg:g < B0):@RG.Kept (earlyGrow g te n8 us) (RowN B0 te' size n xs):=by
 rintro v w w' ⟨g',cap,cur,h1,h2,h3,h4⟩ hr
 have hr:EG g te n8 us w w':=hr
 exact ⟨g',cap,cur,h1,h2,hr.blk h3 (by omega),h4⟩
theorem blkN_kept {t:TypeId} {cs:Array Value} {k:Nat} (hg:g < B0):@RG.Kept (earlyGrow g te n8 us) (fun v w=>∃ N,v=.slice (some ⟨N,0,none⟩) k k∧B0≤N∧Blk w N t cs):=by
 rintro v w w' ⟨N,h1,h2,h3⟩ hr
 have hr:EG g te n8 us w w':=hr
 exact ⟨N,h1,h2,hr.blk h3 (by omega)⟩
theorem HRow.rowE {w W W':World} {G M:List Nat} {bx:List Box} {L:List (List Nat→World→Prop)} {n c:Nat} {xs:List Value} (T:HRow w G M bx L te 1 (.slice (some ⟨g,0,none⟩) n c) n xs W) (hn:0 < n) (hc:EG g te n us W W'):∃ cur,Blk W' g te cur∧n≤c∧c≤maxLen∧cur.size=c*1∧cur.toList.take (n*1)=xs:=by
 have hl:xs.length=n:=by have:=T.own.1;omega
 rcases T.own.2 with ⟨h0,_⟩ | ⟨g',cap,cur,e1,e2,e3,e4,e5,e6,e7⟩
 ·omega
 ·injection e1 with k1 k2 k3
  injection k1 with k1
  injection k1 with k1
  subst k1 k3
  have hk:=@rowE_kept g te n us W.heap.size 1 n xs (fun j u h1 h2=>by have:=(List.getElem?_eq_some_iff.1 h2).1;omega) _ W W' ⟨g,c,cur,rfl,.inl rfl,e3,e4,e5,e6,e7⟩ hc
  obtain ⟨g2,cap2,cur2,f1,f2,f3,f4,f5,f6,f7⟩:=hk
  injection f1 with k1 k2 k3
  injection k1 with k1
  injection k1 with k1
  subst k1 k3
  exact ⟨cur2,f3,f4,f5,f6,f7⟩
theorem HRow.gLt {w W:World} {G M:List Nat} {bx:List Box} {L:List (List Nat→World→Prop)} {size n c:Nat} {xs:List Value} (T:HRow w G M bx L te size (.slice (some ⟨g,0,none⟩) n c) n xs W):g < W.heap.size:=T.h.mb g (T.ok g rfl).1
end
namespace Sx
theorem encS_le {l:List ByteArray} {b:Nat} (h:∀ s∈l,s.size≤b):(encS l).length≤(b+9)*(l.length+1):=by
 rw [← accS_all];exact accS_le h _
theorem ints_le (l:List Int):(En.ints l).length≤9*(l.length+1):=by
 rw [← accI_all];exact accI_le l _
theorem flat_le2 {α β:Type} (f:α→List β) (c:Nat) {l:List α} (h:∀ a∈l,(f a).length≤c):((l.map f).flatten).length≤l.length*c:=by
 have:=flat_le f c h
 rwa [List.flatMap_def] at this
theorem encF_le {f:Fld} (h:FB f):(encF f).length≤510:=by
 have h1:=encS_le (l:=[Sc.nm f,Sc.of_ f,Sc.up f]) (b:=12) (by
  intro s hs
  simp only [List.mem_cons,List.not_mem_nil,or_false] at hs
  have:=h.nm;have:=h.of_;have:=h.up
  rcases hs with rfl | rfl | rfl <;> assumption)
 have h2:=ints_le [Sc.kd f,Sc.lo f,Sc.hi f]
 have h3:=encS_le h.w
 have h4:=ints_le (Sc.wts f)
 have h5:=h.ws;have h6:=h.ns
 unfold encF
 simp only [aK,List.length_cons,List.length_nil] at *
 omega
theorem encK_le {k:Knd} (h:KB k):(encK k).length≤5200:=by
 have h1:=encB_le h.nm
 have h2:=ints_le [k.2.1,k.2.2.1]
 have h3:=En.int_le ((Sc.flds k).length:Int)
 have h4:=flat_le2 encF 510 (l:=Sc.flds k) fun f hf=>encF_le (fldB_bd (h.f f hf))
 have h5:=h.n
 unfold encK
 simp only [aK,List.length_cons,List.length_nil] at *
 omega
theorem mvs_len (l:List (Int × Int)):(mvs l).length=2*l.length:=by
 unfold mvs
 induction l with
 | nil=>rfl
 | cons a l ih=>rw [List.flatMap_cons,aK,ih];simp;omega
theorem encL_le {x:Lif} (h:LB x):(encL x).length≤900:=by
 have h1:=encB_le h.nm
 have h2:=encS_le h.s
 have h3:=ints_le (mvs x.2.2)
 have h4:=h.n;have h5:=h.m
 rw [mvs_len] at h3
 unfold encL
 simp only [aK] at *
 omega
theorem encR_le {r:Rul} (h:RB r):(encR r).length≤120:=by
 have h1:=encS_le (l:=[r.1,r.2.1,r.2.2.1,r.2.2.2.1]) (b:=12) (by
  intro s hs
  simp only [List.mem_cons,List.not_mem_nil,or_false] at hs
  have:=h.nm;have:=h.k;have:=h.a;have:=h.b
  rcases hs with rfl | rfl | rfl | rfl <;> assumption)
 have h2:=En.int_le r.2.2.2.2
 unfold encR
 simp only [aK,List.length_cons,List.length_nil] at *
 omega
theorem enc_le {x:Sch} (h:OB x):(enc x).length≤40000:=by
 have h1:=En.int_le x.1
 have h2:=En.int_le ((Sc.kinds x).length:Int)
 have h3:=flat_le2 encK 5200 (l:=Sc.kinds x) fun k hk=>encK_le (h.k k hk)
 have h4:=En.int_le (x.2.2.1.length:Int)
 have h5:=flat_le2 encL 900 (l:=x.2.2.1) fun k hk=>encL_le (h.l k hk)
 have h6:=En.int_le (x.2.2.2.length:Int)
 have h7:=flat_le2 encR 120 (l:=x.2.2.2) fun k hk=>encR_le (h.r k hk)
 have h8:=h.nk;have h9:=h.nl;have h10:=h.nr
 unfold enc
 simp only [aK]
 omega
end Sx
theorem keeps_cell (b o:Nat) (v:Value):Keeps (fun M W=>b∉M∧W.cell? ⟨b,o,none⟩=some v) :=
 ⟨fun _ _ _ h hc=>⟨h.1,hc.cell h.1 h.2⟩,fun _ _ _ h hs=>⟨fun hm=>(hs b hm).elim h.1 fun hl=>by have:=World.block_lt_of_cell? _ _ h.2;simp only at this;omega,h.2⟩⟩
section
variable {w W W':World} {G M:List Nat} {bx:List Box} {L:List (List Nat→World→Prop)}
theorem HRow2.hr {e1 e2:TypeId} {s1 s2 n1 n2:Nat} {v1 v2:Value} {xs1 xs2:List Value} (h:HRow2 w G M bx L e1 s1 v1 n1 xs1 e2 s2 v2 n2 xs2 W) (hne:e1≠e2):HR w G M bx [⟨e2,s2,v2,n2,xs2⟩,⟨e1,s1,v1,n1,xs1⟩] L W:=by
 refine ⟨h.r1.h,fun r hr=>?_,fun r hr=>?_,List.pairwise_cons.2 ⟨fun s hs=>?_,List.pairwise_cons.2 ⟨fun _ hs=>(by cases hs),List.Pairwise.nil⟩⟩⟩
 ·rcases aL hr with rfl | hr
  ·exact h.k2
  ·obtain rfl:=List.mem_singleton.1 hr
   exact h.r1.ok
 ·rcases aL hr with rfl | hr
  ·exact h.o2
  ·obtain rfl:=List.mem_singleton.1 hr
   exact h.r1.own
 ·obtain rfl:=List.mem_singleton.1 hs
  intro g hg he
  have hg:v2.ownBlock=some g:=hg
  have he:v1.ownBlock=some g:=he
  rcases h.apart hne with h0 | h0
  ·rw [h0] at hg;cases hg
  ·exact h0 (hg.trans he.symm)
theorem HRow2.freeze2 {α:Type} [Mem α] {l:List α} {e1 e2:TypeId} {s1 s2 n1 n2:Nat} {v1 v2:Value} {xs1 xs2:List Value} (h:HRow2 w G M bx L e1 s1 v1 n1 xs1 e2 s2 v2 n2 xs2 W) (hne:e1≠e2) (hs:s2=Mem.sz α) (hn:n2=l.length) (hf:Flat M W l xs2) (hG:∀ g∈G,g < w.heap.size) :
  ∃ A c M',v2=.slice A l.length c∧HRow w G M' bx ((fun M W=>SlAt M W A l)::L) e1 s1 v1 n1 xs1 W:=by
 obtain ⟨A,c,M',k1,_,_,k2,_,_⟩:=(h.hr hne).freeze hs hn hf hG
 exact ⟨A,c,M',k1,k2.h,k2.ok _ (.head _),k2.own _ (.head _)⟩
end
theorem mvs_take (l:List (Int × Int)) (j:Nat) (hj:j < l.length):Sx.mvs (l.take (j+1))=Sx.mvs (l.take j)++[l[j].1,l[j].2]:=by
 rw [List.take_succ_eq_append_getElem hj]
 unfold Sx.mvs
 rw [List.flatMap_append]
 rfl
end Go.Proofs.YtmplaikgbeeikaaGreatDoor
