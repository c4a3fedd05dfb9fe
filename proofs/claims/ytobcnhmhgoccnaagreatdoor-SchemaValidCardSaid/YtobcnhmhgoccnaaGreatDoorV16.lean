/- Parts of the proof, joined: ShaPlain, ShaBox. -/
import Derived.Test.YtobcnhmhgoccnaaGreatDoorV1
import Derived.Deep.WholeRow
set_option linter.unusedVariables false
set_option linter.unusedSimpArgs false
set_option linter.unusedSectionVars false
namespace Go.Proofs.YtobcnhmhgoccnaaGreatDoor
open Go Go.RowKit
section
namespace Sha
def xr (a b:Int):Int:=bits .xor .u32 a b
def an (a b:Int):Int:=bits .and .u32 a b
def og (a b:Int):Int:=bits .or .u32 a b
def ad (a b:Int):Int:=IntKind.u32.wrap (a+b)
def shl (a:Int) (n:Nat):Int:=IntKind.u32.wrap (a*2 ^ n)
def rot (x:Int) (n:Nat):Int:=og (x / 2 ^ n) (shl x (32 - n))
def mix (x:Int) (i j k:Nat):Int:=xr (xr (rot x i) (rot x j)) (rot x k)
theorem ad_is (a b:Int):ad a b=(a+b) % 4294967296:=by unfold ad;simp [IntKind.wrap,IntKind.signed,IntKind.bits]
theorem ad4 (a b c d:Int):ad (ad (ad a b) c) d=(a+b+c+d) % 4294967296:=by simp only [ad_is];omega
theorem ad5 (h m c k x:Int):((h+m+c+k) % 4294967296+x) % 4294967296=ad (ad (ad (ad h m) c) k) x:=by simp only [ad_is];omega
theorem xr_comm (a b:Int):xr a b=xr b a:=by unfold xr bits;simp only;rw [BitVec.xor_comm]
theorem og_comm (a b:Int):og a b=og b a:=by unfold og bits;simp only;rw [BitVec.or_comm]
theorem rot_l (x:Int) (n:Nat):og (shl x (32 - n)) (x / 2 ^ n)=rot x n:=og_comm _ _
theorem og_add (a b k:Nat) (hb:b < 2 ^ k) (h:a*2 ^ k+b < 4294967296):og ((a:Int)*2 ^ k) (b:Int)=(a:Int)*2 ^ k+b:=by
 have e:(a:Int)*2 ^ k=((a <<< k:Nat):Int):=by rw [Nat.shiftLeft_eq];simp
 have h1:a <<< k+b < 4294967296:=by rw [Nat.shiftLeft_eq];exact h
 rw [e]
 unfold og bits
 show IntKind.u32.wrap ((BitVec.ofInt 32 ((a <<< k:Nat):Int) ||| BitVec.ofInt 32 (b:Int)).toNat:Int)=_
 rw [BitVec.ofInt_natCast,BitVec.ofInt_natCast,BitVec.toNat_or,BitVec.toNat_ofNat,BitVec.toNat_ofNat,Nat.mod_eq_of_lt (by omega),Nat.mod_eq_of_lt (by omega),<-Nat.shiftLeft_add_eq_or_of_lt hb,show ((a <<< k:Nat):Int)+(b:Int)=((a <<< k+b:Nat):Int) from (Int.natCast_add _ _).symm]
 generalize a <<< k+b=S at h1
 simp only [IntKind.wrap,IntKind.signed,IntKind.bits]
 simp
 omega
theorem shl_is (a k:Nat) (h:a*2 ^ k < 4294967296):shl (a:Int) k=(a:Int)*2 ^ k:=by
 have e:(a:Int)*2 ^ k=((a*2 ^ k:Nat):Int):=by simp
 unfold shl
 rw [e]
 simp only [IntKind.wrap,IntKind.signed,IntKind.bits]
 simp
 omega
def wd (a b c d:UInt8):Int:=((a.toNat*16777216+b.toNat*65536+c.toNat*256+d.toNat:Nat):Int)
theorem wd_ref (a b c d:UInt8):og (og (og (shl (a.toNat:Int) 24) (shl (b.toNat:Int) 16)) (shl (c.toNat:Int) 8)) (d.toNat:Int)=wd a b c d:=by
 have ha:=a.toNat_lt;have hb:=b.toNat_lt;have hc:=c.toNat_lt;have hd:=d.toNat_lt
 rw [shl_is _ 24 (by omega),shl_is _ 16 (by omega),shl_is _ 8 (by omega)]
 have e1:og ((a.toNat:Int)*2 ^ 24) ((b.toNat:Int)*2 ^ 16)=((a.toNat*256+b.toNat:Nat):Int)*2 ^ 16:=by
  have:=og_add a.toNat (b.toNat*2 ^ 16) 24 (by omega) (by omega)
  rw [show ((b.toNat*2 ^ 16:Nat):Int)=(b.toNat:Int)*2 ^ 16 by simp] at this
  rw [this];omega
 have e2:og (((a.toNat*256+b.toNat:Nat):Int)*2 ^ 16) ((c.toNat:Int)*2 ^ 8)=(((a.toNat*256+b.toNat)*256+c.toNat:Nat):Int)*2 ^ 8:=by
  have:=og_add (a.toNat*256+b.toNat) (c.toNat*2 ^ 8) 16 (by omega) (by omega)
  rw [show ((c.toNat*2 ^ 8:Nat):Int)=(c.toNat:Int)*2 ^ 8 by simp] at this
  rw [this];omega
 rw [e1,e2,og_add _ _ 8 (by omega) (by omega)]
 unfold wd
 omega
theorem wd_step (x:Nat) (c:UInt8) (h:x < 16777216):og (shl (x:Int) 8) (c.toNat:Int)=((x*256+c.toNat:Nat):Int):=by
 have hc:=c.toNat_lt
 rw [shl_is _ 8 (by omega),og_add _ _ 8 (by omega) (by omega)]
 omega
def g (l:List Int) (i:Nat):Int:=l.getD i 0
theorem ch_is (e f g:Int):xr (an e f) (an (xr 4294967295 e) g)=xr (an e f) (an (xr e 4294967295) g):=by rw [xr_comm 4294967295 e]
def gb (l:List UInt8) (i:Nat):UInt8:=l.getD i 0
def s0 (x:Int):Int:=xr (xr (rot x 7) (rot x 18)) (x / 2 ^ 3)
def s1 (x:Int):Int:=xr (xr (rot x 17) (rot x 19)) (x / 2 ^ 10)
def word (b:List UInt8) (t:Nat):Int:=wd (gb b (4*t)) (gb b (4*t+1)) (gb b (4*t+2)) (gb b (4*t+3))
def sch (b:List UInt8):Nat->List Int
 | 0=>[]
 | t+1=>sch b t++[if t < 16 then word b t else ad (ad (ad (g (sch b t) (t - 16)) (s0 (g (sch b t) (t - 15)))) (g (sch b t) (t - 7))) (s1 (g (sch b t) (t - 2)))]
theorem sch_length (b:List UInt8):∀t,(sch b t).length=t
 | 0=>rfl
 | t+1=>by rw [sch,aK,sch_length b t];rfl
structure St where
 a:Int
 b:Int
 c:Int
 d:Int
 e:Int
 f:Int
 g:Int
 h:Int
def St.l (s:St):List Int:=[s.a,s.b,s.c,s.d,s.e,s.f,s.g,s.h]
def H0:St:=⟨1779033703,3144134277,1013904242,2773480762,1359893119,2600822924,528734635,1541459225⟩
def ch (e f g:Int):Int:=xr (an e f) (an (xr e 4294967295) g)
def mj (a b c:Int):Int:=xr (xr (an a b) (an a c)) (an b c)
def rnd (K W:Int) (s:St):St :=
 let x:=ad (ad (ad (ad s.h (mix s.e 6 11 25)) (ch s.e s.f s.g)) K) W
 let y:=ad (mix s.a 2 13 22) (mj s.a s.b s.c)
 ⟨ad x y,s.a,s.b,s.c,ad s.d x,s.e,s.f,s.g⟩
def rnds (K W:List Int) (s:St):Nat->St
 | 0=>s
 | t+1=>rnd (g K t) (g W t) (rnds K W s t)
def plus (s v:St):St:=⟨ad s.a v.a,ad s.b v.b,ad s.c v.c,ad s.d v.d,ad s.e v.e,ad s.f v.f,ad s.g v.g,ad s.h v.h⟩
def KK:List Int:=[
 1116352408,1899447441,3049323471,3921009573,961987163,1508970993,2453635748,2870763221,
 3624381080,310598401,607225278,1426881987,1925078388,2162078206,2614888103,3248222580,
 3835390401,4022224774,264347078,604807628,770255983,1249150122,1555081692,1996064986,
 2554220882,2821834349,2952996808,3210313671,3336571891,3584528711,113926993,338241895,
 666307205,773529912,1294757372,1396182291,1695183700,1986661051,2177026350,2456956037,
 2730485921,2820302411,3259730800,3345764771,3516065817,3600352804,4094571909,275423344,
 430227734,506948616,659060556,883997877,958139571,1322822218,1537002063,1747873779,
 1955562222,2024104815,2227730452,2361852424,2428436474,2756734187,3204031479,3329325298]
def comp (s:St) (b:List UInt8):St:=plus s (rnds KK (sch b 64) s 64)
def blocks (s:St) (m:List UInt8):St:=if _h:64<=m.length then blocks (comp s (m.take 64)) (m.drop 64) else s
termination_by m.length
decreasing_by rw [List.length_drop];omega
def rest (m:List UInt8):List UInt8:=m.drop (64*(m.length / 64))
theorem blocks_lt (s:St) {m:List UInt8} (h:m.length < 64):blocks s m=s:=by rw [blocks,dif_neg (by omega)]
theorem blocks_ge (s:St) {m:List UInt8} (h:64<=m.length):blocks s m=blocks (comp s (m.take 64)) (m.drop 64):=by rw [blocks,dif_pos h]
theorem blocks_append:∀(n:Nat) (s:St) (a b:List UInt8),a.length=64*n->blocks s (a++b)=blocks (blocks s a) b
 | 0,s,a,b,h=>by
  have:a=[]:=zT (by omega)
  subst this
  rw [zA,blocks_lt s (m:=[]) (by simp)]
 | n+1,s,a,b,h=>by
  rw [blocks_ge s (m:=a++b) (by rw [aK];omega),blocks_ge s (m:=a) (by omega),List.take_append_of_le_length (by omega),List.drop_append_of_le_length (by omega)]
  exact blocks_append n _ _ _ (by rw [List.length_drop];omega)
theorem rest_length (m:List UInt8):(rest m).length=m.length % 64:=by unfold rest;rw [List.length_drop];omega
theorem split (m:List UInt8):m.take (64*(m.length / 64))++rest m=m:=List.take_append_drop _ _
theorem blocks_head (s:St) (m:List UInt8):blocks s m=blocks s (m.take (64*(m.length / 64))):=by
 have h:=blocks_append (m.length / 64) s (m.take (64*(m.length / 64))) (rest m) (by rw [zI];omega)
 rw [split] at h
 rw [h,blocks_lt _ (by rw [rest_length];omega)]
theorem blocks_in (s:St) (m t:List UInt8) (h:m.length % 64+t.length < 64):blocks s (m++t)=blocks s m/\rest (m++t)=rest m++t:=by
 have e:(m++t).length / 64=m.length / 64:=by rw [aK];omega
 refine ⟨?_,?_⟩
 .rw [blocks_head s (m++t),e,List.take_append_of_le_length (by omega),<-blocks_head]
 .unfold rest;rw [e,List.drop_append_of_le_length (by omega)]
theorem blocks_full (s:St) (m t:List UInt8) (h:m.length % 64+t.length=64):blocks s (m++t)=comp (blocks s m) (rest m++t)/\rest (m++t)=[]:=by
 have hl:(rest m++t).length=64:=by rw [aK,rest_length];exact h
 refine ⟨?_,?_⟩
 .have e:m++t=m.take (64*(m.length / 64))++(rest m++t):=by rw [<-zo,split]
  rw [e,blocks_append (m.length / 64) s _ _ (by rw [zI];omega),<-blocks_head,blocks_ge _ (by omega),List.take_of_length_le (by omega),blocks_lt _ (by rw [List.length_drop];omega)]
 .unfold rest
  rw [aK,show 64*((m.length+t.length) / 64)=m.length+t.length by omega]
  exact List.drop_eq_nil_of_le (by rw [aK];exact ag _)
def fill (n:Nat):Nat:=(119 - n % 64) % 64
theorem fill_is (n:Nat):(n+1+fill n) % 64=56/\fill n < 64:=by unfold fill;omega
theorem fill_no (n k:Nat) (h:k < fill n):(n+1+k) % 64≠56:=by unfold fill at h;omega
def len8 (n:Nat) (k:Nat):List UInt8:=(List.range k).map λi=>UInt8.ofNat (8*n / 256 ^ (7 - i))
theorem len8_length (n k:Nat):(len8 n k).length=k:=by simp [len8]
theorem len8_snoc (n k:Nat):len8 n k++[UInt8.ofNat (8*n / 256 ^ (7 - k))]=len8 n (k+1):=by simp [len8,List.range_succ]
def pad (n:Nat):List UInt8:=128::(List.replicate (fill n) 0++len8 n 8)
def padded (m:List UInt8):List UInt8:=m++pad m.length
theorem padded_length (m:List UInt8):(padded m).length % 64=0:=by
 have:=fill_is m.length
 unfold padded pad
 simp only [aK,zm,List.length_replicate,len8_length]
 omega
def outB (s:St) (i:Nat):UInt8:=UInt8.ofNat (g s.l (i / 4) / 2 ^ (24 - 8*(i % 4)) % 256).toNat
def out (s:St) (n:Nat):List UInt8:=(List.range n).map (outB s)
theorem out_length (s:St) (n:Nat):(out s n).length=n:=by simp [out]
theorem out_snoc (s:St) (n:Nat):out s n++[outB s n]=out s (n+1):=by simp [out,List.range_succ]
def sum (m:List UInt8):St:=blocks H0 (padded m)
def one (tag:UInt8) (e:List UInt8):List UInt8:=out (sum (tag::(En.int e.length++e))) 16
theorem one_length (tag:UInt8) (e:List UInt8):(one tag e).length=16:=out_length _ _
end Sha
end
section
section
variable {w W W':World} {G M:List Nat} {bx:List Box} {rs:List Rw} {L:List (List Nat->World->Prop)} {N:Nat} {t:TypeId} {cs cs':Array Value}
theorem Held.turn (h:Held w G M ((N,t,cs)::bx) L W) (hc:Chg [N] W W') (hb:Blk W' N t cs'):Held w G M ((N,t,cs')::bx) L W':=by
 have h0:=h.bs (N,t,cs) (.head _)
 have nd:=h.nd
 rw [List.map_cons,List.nodup_cons] at nd
 have h1:=h0.2.1
 simp only at h1
 refine ⟨⟨hc.os.trans h.bl.os,hc.tape.trans h.bl.tape,hc.output.trans h.bl.output,Nat.le_trans h.bl.size hc.size,λk hk=>?_⟩,λg hg=>qr (h.mb g hg) hc.size,h.gm,λx hx=>?_,h.nd,λP hP=>⟨(h.all P hP).1,?_⟩⟩
 .refine (hc.block k (qr hk h.bl.size) λhm=>?_).trans (h.bl.block k hk)
  have e:k=N:=by simpa using hm
  omega
 .rcases aL hx with rfl | hx'
  .exact ⟨h0.1,h0.2.1,hb⟩
  .have h2:=h.bs x (.tail _ hx')
   refine ⟨h2.1,h2.2.1,(hc.block x.1 h2.2.2.lt λhm=>?_).trans h2.2.2⟩
   have e:x.1=N:=by simpa using hm
   exact nd.1 (e ▸ List.mem_map.2 ⟨x,hx',rfl⟩)
 .exact (h.all P hP).1.1 _ _ _ (h.all P hP).2 (hc.mono λg hg=>by rw [zg.1 hg];exact .inl h0.1)
theorem HR.turn (h:HR w G M ((N,t,cs)::bx) rs L W) (hc:Chg [N] W W') (hb:Blk W' N t cs'):HR w G M ((N,t,cs')::bx) rs L W':=by
 have key:∀r∈rs,∀g,r.v.ownBlock=some g->g≠N:=λr hr g hg e=>(h.ok r hr g hg).2.2 _ (.head _) e.symm
 refine ⟨h.h.turn hc hb,λr hr g hg=>⟨(h.ok r hr g hg).1,(h.ok r hr g hg).2.1,λx hx=>?_⟩,λr hr=>?_,h.apart⟩
 .rcases aL hx with rfl | hx
  .exact λe=>key r hr g hg e.symm
  .exact (h.ok r hr g hg).2.2 x (.tail _ hx)
 .refine World.ownsRow.kept (row:=some N) (h.own r hr) ⟨hc.os,hc.tape,hc.output,hc.size,λk hk hne=>hc.block k hk λhm=>hne (by rw [zg.1 hm])⟩ (.inr λhe=>key r hr N he rfl)
theorem chg_setRow (w:World) (g:Nat) (cs:Array Value):Chg [g] w (w.setRow g cs) :=
 ⟨rfl,rfl,rfl,by simp,λk _ hg=>setRow_other w g k cs (by simpa using hg)⟩
theorem Blk.row (h:Blk w N t cs) (cs':Array Value):Blk (w.setRow N cs') N t cs':=setRow_heap w N cs cs' t (0,0) h
theorem HR.setAll (h:HR w G M ((N,t,cs)::bx) rs L W) (cs':Array Value):HR w G M ((N,t,cs')::bx) rs L (W.setRow N cs'):=h.turn (chg_setRow W N cs') ((h.box (.head _)).row cs')
theorem HR.box3 {x y z:Box} (h:HR w G M (x::y::z::bx) rs L W):HR w G M (z::x::y::bx) rs L W:=h.bperm ((List.Perm.swap z y bx).cons x |>.trans (List.Perm.swap z x (y::bx)))
end
def wv (l:List Int):List Value:=l.map λx=>.int .u32 x
theorem wv_length (l:List Int):(wv l).length=l.length:=by simp [wv]
theorem wv_append (a b:List Int):wv (a++b)=wv a++wv b:=by simp [wv]
theorem wv_get {l:List Int} {i:Nat} (h:i < l.length):(wv l)[i]?=some (.int .u32 (Sha.g l i)):=by
 unfold wv Sha.g
 rw [List.getElem?_map,zp h,List.getD_eq_getElem?_getD,zp h];rfl
theorem wv_one (l:List Int):(wv l).toArray.all (·.oneCell')=true:=all_oneCell_toArray λv hv=>by
 obtain ⟨x,_,rfl⟩:=List.mem_map.1 hv;rfl
def padW (l:List Int):Array Value:=(wv l++List.replicate (64 - l.length) (Value.int .u32 0)).toArray
theorem padW_size {l:List Int} (h:l.length<=64):(padW l).size=64:=by simp [padW,wv];omega
theorem padW_get {l:List Int} {i:Nat} (h:i < l.length):(padW l)[i]?=some (.int .u32 (Sha.g l i)):=by
 unfold padW
 rw [aE,zX (by rw [wv_length];exact h),wv_get h]
theorem padW_zero {l:List Int} (h:l.length < 64):padW l=padW (l++[0]):=by
 unfold padW
 rw [wv_append,zo,aK]
 congr 2
 rw [show 64 - l.length=(64 - (l.length+1))+1 by omega,List.replicate_succ];rfl
theorem padW_set {l:List Int} (x y:Int):(padW (l++[x])).setIfInBounds l.length (.int .u32 y)=padW (l++[y]):=by
 unfold padW
 rw [wv_append,wv_append,zo,zo,aK,aK,aB,List.set_append_right _ _ (by rw [wv_length];exact ag _),wv_length,Nat.sub_self]
 rfl
theorem padW_last {l:List Int} (x:Int):(padW (l++[x]))[l.length]?=some (.int .u32 x):=by
 rw [padW_get (by simp)];unfold Sha.g;simp
theorem padW_full {l:List Int} (h:l.length=64):padW l=(wv l).toArray:=by unfold padW;rw [h];simp
theorem run_copy_str {P:Program} (w:World) (dT sT ty elem:TypeId) (g o dLen dCap:Nat) (s:ByteArray) (cur:Array Value) (t:TypeId) (k:Nat)
  (hu:P.underlying dT=some (.slice elem)) (hs:(P.info? elem).map (·.size)=some 1) (hg:w.heap[g]?=some (.cells cur t (0,0))) (hk:k=Nat.min s.size dLen) (hfit:o+k<=cur.size) :
  (Builtin.copy_ #[dT,sT] ty #[.slice (some ⟨g,o,none⟩) dLen dCap,.string s]).run P w=.ok (goInt k) (w.setRow g (cur.toList.take o++byteVals (s.data.toList.take k)++cur.toList.drop (o+k)).toArray):=by
 have hl:(byteVals (s.data.toList.take k)).length=k:=by
  have:k<=s.size:=by rw [hk];exact Nat.min_le_left _ _
  rw [byteVals_length,zI,show s.data.toList.length=s.size by simp];omega
 have hst:=run_storeCells_at P g o t (byteVals (s.data.toList.take k)) 0 cur w hg (by rw [hl];omega) (byteVals_one _)
 have he:((s.extract 0 k).data.map λb=>Value.int .u8 b.toNat).toList=byteVals (s.data.toList.take k):=by
  rw [Array.toList_map,ByteArray.data_extract,Array.toList_extract]
  unfold byteVals
  simp [List.extract]
 rw [zW,hl] at hst
 cases hq:P.info? elem with
 | none=>simp [hq] at hs
 | some i =>
  have hi:i.size=1:=by simpa [hq] using hs
  simp only [Builtin.copy_,Sem.run_bind,run_underlying hu,Result.andThen_ok,Builtin.lenOf,Builtin.firstCells,sizeOf,typeInfo,Sem.run_pure,aE,aD,aC,<-hk,he]
  simp [hq,hst,hi]
theorem run_index_word {P:Program} (w:World) (ty el:TypeId) (n:Nat) (l:List Int) (hu:P.underlying ty=some (.array n el)) (he:P.underlying el=some (.int .u32)) (hs:(P.info? el).map (·.size)=some 1) (hl:l.length=n) (t:Nat) (ht:t < n) :
  (Instr.index ty (.agg (wv l).toArray) (.int .i64 (t:Int))).run P w=.ok (.int .u32 (Sha.g l t)) w:=by
 have h1:(0:Int)<=(t:Int)/\(t:Int) < (n:Int):=by omega
 have h2:(isAgg el).run P w=.ok false w:=by unfold isAgg;rw [Sem.run_bind,run_underlying he w];rfl
 have h3:(wv l)[t]?=some (.int .u32 (Sha.g l t)):=wv_get (by omega)
 cases hq:P.info? el with
 | none=>simp [hq] at hs
 | some i =>
  have hi:i.size=1:=by simpa [hq] using hs
  have hp:(part el (wv l).toArray t).run P w=.ok (.int .u32 (Sha.g l t)) w:=by
   unfold part
   rw [Sem.run_bind,h2]
   simp [h3]
  have hz:(sizeOf el).run P w=.ok 1 w:=by simp [sizeOf,typeInfo,hq,hi]
  have ha:(asIntOf (.int .i64 (t:Int))).run P w=.ok (.i64,(t:Int)) w:=rfl
  unfold Instr.index
  rw [Sem.run_bind,ha,Result.andThen_ok]
  simp only [Sem.run_bind,run_underlying hu,Result.andThen_ok,if_pos h1,hz,zO,Int.toNat_natCast,hp]
theorem run_arrayAt {P:Program} (w:World) (arr e:TypeId) (n:Nat) (hu:P.underlying arr=some (.array n e)) (a:Addr) (l c:Nat) (h:n<=l):(Instr.arrayAt arr (.slice (some a) l c)).run P w=.ok (.pointer (some a)) w:=by
 have h':¬l < n:=by omega
 simp only [Instr.arrayAt,Sem.run_bind,run_underlying hu,Result.andThen_ok]
 simp [h']
theorem wpList_store_last {P:Program} {ops:Array Oper} {rest:List Oper} {op:Oper} {a:Act} {w:World} {Q:Exit->Act->World->Prop} {Z:Array Value} {t:TypeId} (hgd:op.guard=none) (ty:TypeId) (x y:Operand) (ho:op.op=.store ty x y)
  (cells:Array Value) (hx:a.eval x=.pointer (some ⟨w.heap.size,0,none⟩)) (hy:a.eval y=.agg cells) (hZ:Z.size=cells.size) (hi:(P.info? ty).map (·.size)=some cells.size) (h1:cells.all (·.oneCell')=true)
  (h:wpList P ops Q rest (a.put op.dst undef) (w.alloc (.cells cells t))):wpList P ops Q (op::rest) a (w.alloc (.cells Z t)) :=
 wpList_store_row hgd ty x y ho w.heap.size cells hx hy t Z (heap_alloc_last w _) hi hZ h1 (by rw [World.setRow_alloc_new];exact h)
end
end Go.Proofs.YtobcnhmhgoccnaaGreatDoor
