/- Parts of the proof, joined: W33, M10, Base9. -/
import Derived.Test.YtobcnhmhgoccnaaGreatDoorV1
import Derived.Deep.Upon
set_option maxRecDepth 100000
set_option maxHeartbeats 8000000
set_option linter.unusedVariables false
set_option linter.unusedSimpArgs false
set_option linter.unusedSectionVars false
namespace Go.Proofs.YtobcnhmhgoccnaaGreatDoor
open Go Go.RowKit
section
theorem infoI1:(Tryz.prog.info? 3).map (λi=>(i.zero,i.size,i.bytes))=some (some (.int .i64 0),1,8):=by kernel_rfl
theorem owns_blk {w:World} {base size n c:Nat} {e:TypeId} {A:Option Addr} {xs:List Value} (h:w.ownsRow base e size (.slice A n c) n xs) (hn:0 < n):∃g cur,A=some ⟨g,0,none⟩/\Blk w g e cur/\cur.toList.take (n*size)=xs:=by
 rcases h.2 with ⟨hv,h0⟩ | ⟨g,cap,cur,hv,_,hh,_,_,_,ht⟩
 .omega
 .injection hv with h1 h2 h3
  exact ⟨g,cur,h1,hh,ht⟩
namespace Sg
def bsz:ByteArray:=⟨#[115,105,122,101]⟩
def btag:ByteArray:=⟨#[116,97,103]⟩
def bborn:ByteArray:=⟨#[98,111,114,110]⟩
def bleft:ByteArray:=⟨#[108,101,102,116]⟩
def bstate:ByteArray:=⟨#[115,116,97,116,101]⟩
def blife:ByteArray:=⟨#[108,105,102,101]⟩
def blow:ByteArray:=⟨#[108,111,119]⟩
def bhigh:ByteArray:=⟨#[104,105,103,104]⟩
def be:ByteArray:=⟨#[]⟩
def colors:List ByteArray:=[⟨#[114,101,100]⟩,⟨#[103,114,101,101,110]⟩,⟨#[98,108,117,101]⟩]
inductive Plain:List Fld->Prop
 | none:Plain []
 | size (lo d:Int):-5<=lo->lo<=5->0<=d->d<=19->Plain [(bsz,be,be,2,lo,lo+d,[],[])]
 | tag (k:Nat) (ws:List Int):1<=k->k<=3->ws.length=k->(∀x∈ws,0<=x/\x<=4)->1<=ws.sum->Plain [(btag,be,be,3,0,0,colors.take k,ws)]
 | born (lo d lo2 d2:Int):-200<=lo->lo<=199->0<=d->d<=59->0<=lo2->lo2<=2->0<=d2->d2<=29->Plain [(bborn,be,be,4,lo,lo+d,[],[]),(bleft,bborn,be,4,lo2,3+d2,[],[])]
 | state (lo d:Int):0<=lo->lo<=2->0<=d->d<=3->Plain [(bstate,blife,be,5,lo,lo+d,[],[])]
 | low (a b c d:Int):0<=a->a<=4->0<=b->b<=9->0<=c->c<=4->0<=d->d<=9->Plain [(blow,be,be,2,a,5+b,[],[]),(bhigh,be,be,2,c,10+d,[],[])]
end Sg
theorem flat_ints {G:List Nat} {w:World}:∀{l:List Int},(∀x∈l,inI x)->Flat G w l (intVals l)
 | [],_=>rfl
 | x::l,h=>⟨[.int .i64 x],intVals l,rfl,⟨rfl,h x (.head _)⟩,flat_ints λy hy=>h y (.tail _ hy)⟩
theorem intVals_set (l:List Int) (k:Nat) (x:Int):(intVals l).set k (.int .i64 x)=intVals (l.set k x):=by unfold intVals;rw [List.map_set]
theorem mem_set_le {ws:List Int} (h:∀x∈ws,0<=x/\x<=4) (z:Nat) (y:Int) (h1:0<=y) (h2:y<=3):∀x∈ws.set z y,0<=x/\x<=4:=λx hx=>by
 rcases List.mem_or_eq_of_mem_set hx with hx | rfl
 .exact h x hx
 .omega
theorem sum_nonneg {ws:List Int} (h:∀x∈ws,0<=x/\x<=4):0<=ws.sum:=by
 induction ws with
 | nil=>simp
 | cons a l ih=>rw [List.sum_cons];have:=h a (.head _);have:=ih λx hx=>h x (.tail _ hx);omega
theorem sum_set:∀{ws:List Int},(∀x∈ws,0<=x/\x<=4)->∀(z:Nat) (y:Int),1<=y->z < ws.length->1<=(ws.set z y).sum
 | [],_,_,_,_,hz=>by simp at hz
 | a::l,h,0,y,hy,_=>by
  rw [aF,List.sum_cons];have:=sum_nonneg λx hx=>h x (.tail _ hx);omega
 | a::l,h,z+1,y,hy,hz=>by
  rw [aG,List.sum_cons];have:=h a (.head _);have:=sum_set (λx hx=>h x (.tail _ hx)) z y hy (by simpa using hz);omega
def PlainP (K:MkK) (bx:List Box) (rs:List Rw) (L:List (List Nat->World->Prop)) (e:Ending) (w':World):Prop :=
 ∃A fs c M',e=.returned (.slice A fs.length c)/\fs.length<=c/\c<=9223372036854775807/\Sg.Plain fs/\MkH K M' bx rs ((λM W=>SlAt M W A fs)::L) w'
section
variable {K:MkK} {M:List Nat} {bx:List Box} {rs:List Rw} {L:List (List Nat->World->Prop)} {W W':World}
theorem plainP_none (h:MkH K M bx rs L W):PlainP K bx rs L (.returned (.slice none 0 0)) W:=⟨none,[],0,M,rfl,ag _,by decide,.none,h.add (keeps_sl none []) SlAt.nil⟩
theorem plainP_of {A:Option Addr} {fs:List Fld} {n c:Nat} (h:MkH K M bx rs ((λM W=>SlAt M W A fs)::L) W) (hp:Sg.Plain fs) (hn:n=fs.length) (hc:n<=c) (hm:c<=9223372036854775807):PlainP K bx rs L (.returned (.slice A n c)) W:=by
 subst hn
 exact ⟨A,fs,c,M,rfl,hc,hm,hp,h⟩
theorem flat_colors {G:List Nat} {w:World}:Flat G w Sg.colors #[Value.string ⟨#[114,101,100]⟩,.string ⟨#[103,114,101,101,110]⟩,.string ⟨#[98,108,117,101]⟩].toList :=
 ⟨[_],_,rfl,⟨rfl,by decide⟩,[_],_,rfl,⟨rfl,by decide⟩,[_],_,rfl,⟨rfl,by decide⟩,rfl⟩
theorem plainP_lit (h:MkH K M bx rs L W) {fs:List Fld} {cs:Array Value} {t:TypeId} {N n:Nat} (hN:W.heap.size=N) (hn:n=fs.length) (hp:Sg.Plain fs) (hf:Flat M W fs cs.toList):PlainP K bx rs L (.returned (.slice (some ⟨N,0,none⟩) n n)) (W.alloc (.cells cs t)):=by
 subst hn hN
 have hb:Below W.heap.size W (W.alloc (.cells cs t)):=(zf _ _).alloc (ag _) _
 have hlen:fs.length<=2:=by cases hp <;> simp
 refine ⟨_,fs,fs.length,M,rfl,ag _,by omega,hp,(h.below hb).add (keeps_sl _ fs) (slAt_blk (zj _ _ _) (λhm=>?_) (hf.keep (za hb)))⟩
 have:=h.mb _ hm
 omega
end
section
variable {K:MkK} {M:List Nat} {bx:List Box} {rs:List Rw} {L:List (List Nat->World->Prop)} {W W':World}
theorem plainP_tag {N F g k:Nat} {t:TypeId} {c:Nat} {ws:List Int} {cs:Array Value} (h:MkH K M ((F,t,cs)::bx) (⟨3,1,.slice (some ⟨g,0,none⟩) k c,k,intVals ws⟩::rs) ((λM W=>SlAt M W (some ⟨N,0,none⟩) Sg.colors)::L) W) (hl:ws.length=k) (hk:1<=k) (hk3:k<=3) (hw:∀x∈ws,0<=x/\x<=4) (hs:1<=ws.sum) {N2:Nat} (hN:W.heap.size=N2) {t2:TypeId} {u:Value} (hu:u=.slice (some ⟨N,0,none⟩) k 3) :
  PlainP K bx rs L (.returned (.slice (some ⟨N2,0,none⟩) 1 1)) (W.alloc (.cells #[.string Sg.btag,.string Sg.be,.string Sg.be,.int .i64 3,.int .i64 0,.int .i64 0,u,.slice (some ⟨g,0,none⟩) k c] t2)):=by
 subst hu hl
 obtain ⟨A,c',M',e,hc1,hc2,h',_⟩:=h.freeze (α:=Int) (l:=ws) rfl rfl (flat_ints λx hx=>by have:=hw x hx;unfold inI;omega)
 injection e with e1 _ e3
 subst e1 e3
 have f1:=h'.fact (.head _)
 have f2:=(h'.fact (.tail _ (.head _))).take ws.length
 have hp:=Sg.Plain.tag ws.length ws hk hk3 rfl hw hs
 have hlen:(Sg.colors.take ws.length).length=ws.length:=by rw [zI];show min _ 3=_;omega
 refine plainP_lit ((h'.boxes (.cons _ (List.Sublist.refl _))).less λP hP=>.tail _ (.tail _ hP)) hN rfl hp (Flat.single (fld_mk ?_ ?_ ?_ ⟨?_,?_⟩ ⟨?_,?_⟩ ⟨?_,?_⟩ ⟨_,3,by rw [hlen],by omega,by omega,f2⟩ ⟨_,c,rfl,hc1,hc2,f1⟩)) <;> decide
end
theorem gplain_any {K:MkK} {M:List Nat} {bx:List Box} {rs:List Rw} {L:List (List Nat->World->Prop)} {W:World} (h:MkH K M bx rs L W):Calls Tryz.prog 71 #[K.p] W (PlainP K bx rs L):=by
 have H:=aI h
 clear h
 go_enter Tryz.func71,Tryz.ntmps71
 go_wp2_with fail
 go_at_call 20
 refine (H.out.take _ (by omega) (by omega)).mono ?_
 rintro e w1 ⟨z,rfl,z1,z2,hr⟩
 replace H:=aI (H.out.turn hr);clear hr
 rcases (show z=0∨z=1∨z=2∨z=3∨z=4∨z=5 by omega) with rfl | rfl | rfl | rfl | rfl | rfl
 .go_wp2_with fail
  go_at_call 20
  refine (H.out.take _ (by omega) (by omega)).mono ?_
  rintro e w1 ⟨a,rfl,a1,a2,hr⟩
  replace H:=aI (H.out.turn hr);clear hr
  go_wp2_with fail
  go_at_call 20
  refine (H.out.take _ (by omega) (by omega)).mono ?_
  rintro e w1 ⟨b,rfl,b1,b2,hr⟩
  replace H:=aI (H.out.turn hr);clear hr
  go_wp2_with fail
  go_ret
  have hp:=Sg.Plain.size (a - 5) b (by omega) (by omega) (by omega) (by omega)
  refine plainP_lit H.out rfl rfl hp (Flat.single (fld_mk ?_ ?_ ?_ ⟨?_,?_⟩ ⟨?_,?_⟩ ⟨?_,?_⟩ rep_nil rep_nil)) <;> first | omega | decide
 .go_wp2_with fail
  have hb0:=aI (show Below w1.heap.size w1 (w1.alloc (.cells #[.string ⟨#[114,101,100]⟩,.string ⟨#[103,114,101,101,110]⟩,.string ⟨#[98,108,117,101]⟩] 9)) from (zf _ _).alloc (ag _) _)
  replace H:=aI ((H.out.below hb0.out).lit (l:=Sg.colors) (zj _ _ _) (λhm=>by have:=H.out.mb _ hm;omega) flat_colors)
  generalize hW1:(w1.alloc _)=W1 at H ⊢
  generalize w1.heap.size=N at H ⊢
  clear hW1 hb0
  clear w1
  go_at_call 20
  refine (H.out.take _ (by omega) (by omega)).mono ?_
  rintro e w1 ⟨a,rfl,a1,a2,hr⟩
  replace H:=aI (H.out.turn hr);clear hr
  go_wp2_with fail
  rcases (show a=0∨a=1∨a=2 by omega) with rfl | rfl | rfl
  .replace H:=aI ((H.out.new #[.string ⟨#[116,97,103]⟩,.string ⟨#[]⟩,.string ⟨#[]⟩,.int .i64 3,.int .i64 0,.int .i64 0,.slice (some ⟨N,0,none⟩) 1 3,.slice none 0 0] 65 rfl).push 3 1)
   generalize w1.heap.size=F at H ⊢
   go_loopg [6] 1 (λr i wr=>∃(j:Nat) (M1:List Nat) (v:Value) (ws:List Int),j+r=1/\i=.int .i64 j/\ws.length=j/\(∀x∈ws,0<=x/\x<=4)/\MkH K M1 ((F,65,#[.string ⟨#[116,97,103]⟩,.string ⟨#[]⟩,.string ⟨#[]⟩,.int .i64 3,.int .i64 0,.int .i64 0,.slice (some ⟨N,0,none⟩) 1 3,v])::bx) (⟨3,1,v,j,intVals ws⟩::rs) ((λM W=>SlAt M W (some ⟨N,0,none⟩) Sg.colors)::L) wr)
   case atStart=>exact ⟨0,_,_,[],by omega,rfl,rfl,(λ_ h=>by cases h),H.out⟩
   case round =>
    obtain ⟨j,M1,v,ws,hj,rfl,hl,hb,hT⟩:=hrel
    have T:=aI hT;have HWS:=aI hb
    clear hT hb H
    have hq:=T.out.box (.head _);have q7:=hq.cell 7;(simp at q7);clear hq
    obtain ⟨wo,rfl⟩:=aY wr
    by_cases hlt:j < 1
    .have k1:(j:Int) < 1:=by omega
     go_wp2_with fail
     letI:Grow:=K.grow
     apply zx (C:=λw'=>K.R wo w') (n:=103) (m:=5) (l1:=[_,_,_,_,_]) (l2:=[_,_,_]);rfl;rfl;kernel_rfl;rfl;kernel_rfl;exact K.drew wo;exact λu u' h hb=>h.trans hb
     iterate 3 ((apply aHx;·(intro w' hC hf;have q:=(T.out.turn hC).box (.head _);have q7:=q.cell 7;(simp at q7);clear q;clear hf hC;go_wp2_with (fail);apply aBx;simp only [zC];exact rfl));(try simp only [zn]))
     apply zb (T:=λv _=>∃z:Int,v=.int .i64 z/\0<=z/\z < 5) (λv w w' h _=>h)
     .intro w' hC hf;unfold RG.Gives;clear hf
      go_wp2_with fail
      go_at_call 20
      refine ((T.out.turn hC).take 5 (by omega) (by omega)).mono ?_
      rintro e w3 ⟨v,rfl,v1,v2,hr⟩
      go_wp2_with fail
      refine zd rfl hr ?_;simp only [zC];exact ⟨_,rfl,v1,v2⟩
     intro v41;(try simp only [zn])
     apply zb (litT_kept K wo.heap.size 1 3 (λcs=>∃z:Int,cs=#[.int .i64 z]/\0<=z/\z < 5) T.out.gmLt)
     .intro w' hC hf;unfold RG.Gives;obtain ⟨z,rfl,z1,z2⟩:=hf.1 rfl;clear hf
      have hs:=aI (K.size hC)
      clear hC
      go_wp2_with fail
      refine zd rfl (K.grown (by go_grown)) ?_;simp only [zC]
      exact ⟨_,_,rfl,⟨z,rfl,z1,z2⟩,hs.out,zj _ _ _⟩
     intro v42;(try simp only [zn])
     apply RG.wpT_done
     intro w4 hC hall
     obtain ⟨cs,N2,rfl,⟨z,rfl,z1,z2⟩,hge,hblk⟩:=hall.1
     obtain ⟨i0,hi,hz0,hz1,hz2⟩:=zq infoI1
     refine wpList_append_mk (by rfl) _ _ 22 (by rfl) 3 i0 _ 1 8 Tryz.underlying22 hi hz0 hz1 hz2 rfl (by decide) (T.out.turn hC) (by rfl) _ _ 1 1 [.int .i64 z] (by rfl) (reads_blk hblk rfl) (intVals_one [z]) (by unfold maxLen;omega) (by omega) ?_
     intro v5 w5 M5 h5 _
     obtain ⟨A5,c5,rfl⟩:=h5.form
     have hq:=h5.box (.head _);have f7:=hq.frozen 7;have d7:=hq.cell 7;(simp at d7);clear hq
     have T5:=aI (h5.set0 7 (.slice A5 (j+1) c5))
     clear h5 hblk hC hall hi hz0 hz1 hz2 q7 T this
     go_wp2_with fail
     go_roundg (gk - 1)
     case measure=>omega
     case rel =>
      refine ⟨j+1,M5,.slice A5 (j+1) c5,ws++[z],by omega,by go_num,by rw [aK,hl];rfl,λx hx=>?_,by rw [intVals_append];exact T5.out⟩
      rcases zE.1 hx with hx | hx
      .exact HWS.out x hx
      .rw [zg.1 hx];omega
    .have hjk:j=1:=by omega
     subst hjk
     obtain ⟨A,c,rfl⟩:=T.out.form
     obtain ⟨g,rfl,hcell⟩:=owns_cell (T.out.own _ (.head _)) (by decide)
     go_wp2_with fail
     letI:Grow:=K.grow
     apply zx (C:=λw'=>K.R wo w') (n:=103) (m:=10) (l1:=[_,_,_,_,_,_,_,_,_,_]) (l2:=[_]);rfl;rfl;kernel_rfl;rfl;kernel_rfl;exact K.drew wo;exact λu u' h hb=>h.trans hb
     iterate 5 ((apply aHx;·(intro w' hC hf;have q:=(T.out.turn hC).box (.head _);have q7:=q.cell 7;(simp at q7);clear q;clear hf hC;go_wp2_with (fail);apply aBx;simp only [zC];exact rfl));(try simp only [zn]))
     apply zb (T:=λv _=>∃z:Nat,v=.int .i64 z/\z < 1) (λv w w' h _=>h)
     .intro w' hC hf;unfold RG.Gives;clear hf
      go_wp2_with fail
      go_at_call 20
      refine ((T.out.turn hC).take 1 (by omega) (by omega)).mono ?_
      rintro e w3 ⟨v,rfl,v1,v2,hr⟩
      obtain ⟨z,rfl⟩:∃z:Nat,v=z:=⟨v.toNat,by omega⟩
      go_wp2_with fail
      refine zd rfl hr ?_;simp only [zC];exact ⟨z,rfl,by omega⟩
     intro v50;(try simp only [zn])
     (apply aHx;·(intro w' hC hf;clear hf hC;go_wp2_with (fail);apply aBx;simp only [zC];exact rfl));(try simp only [zn])
     apply zb (T:=λv _=>∃z:Int,v=.int .i64 z/\0<=z/\z < 3) (λv w w' h _=>h)
     .intro w' hC hf;unfold RG.Gives;clear hf
      go_wp2_with fail
      go_at_call 20
      refine ((T.out.turn hC).take 3 (by omega) (by omega)).mono ?_
      rintro e w3 ⟨v,rfl,v1,v2,hr⟩
      go_wp2_with fail
      refine zd rfl hr ?_;simp only [zC];exact ⟨_,rfl,v1,v2⟩
     intro v52;(try simp only [zn])
     apply zb (T:=λv _=>∃z:Int,v=.int .i64 (1+z)/\0<=z/\z < 3) (λv w w' h _=>h)
     .intro w' hC hf;unfold RG.Gives;obtain ⟨z,rfl,z1,z2⟩:=hf.1 rfl;clear hf hC
      go_wp2_with fail
      refine zd rfl (Grow.refl _) ?_;simp only [zC];exact ⟨_,rfl,z1,z2⟩
     intro v53;(try simp only [zn])
     apply zb (T:=λv _=>∃z:Nat,v=.pointer (some ⟨g,z,none⟩)/\z < 1) (λv w w' h _=>h)
     .intro w' hC hf;unfold RG.Gives;obtain ⟨z,rfl,z1⟩:=hf.2.2.1 rfl;clear hf hC
      go_wp2_with fail
      refine zd rfl (Grow.refl _) ?_;simp only [zC];exact ⟨z,by first | rfl | simp [Addr.add],z1⟩
     intro v54;(try simp only [zn])
     apply RG.wpT_done
     intro w4 hC hall
     obtain ⟨z,rfl,z1⟩:=hall.1
     obtain ⟨x,rfl,x1,x2⟩:=hall.2.1
     have T4:=aI (T.out.turn hC)
     clear hall hC hcell T this q7
     obtain ⟨g',cur,hg',hblk,_⟩:=owns_blk (T4.out.own _ (.head _)) (by decide)
     obtain rfl:g=g':=by injection hg' with h;injection h
     have fz:=hblk.frozen z
     obtain ⟨_,hgg,hcell⟩:=owns_cell (T4.out.own _ (.head _)) (by decide)
     obtain rfl:g=_:=by injection hgg with h;injection h
     have dz:=hcell z (.int .i64 (ws[z]'(by omega))) (by unfold intVals;rw [List.getElem?_map,zp (by omega)];rfl)
     have T5:=aI (T4.out.setRow (.int .i64 (1+x)) (k:=z) (by omega))
     clear hg' hgg hcell hblk T4
     have hq:=T5.out.box (.head _);obtain ⟨q0,q1,q2,q3,q4,q5,q6,q7⟩:=aN8 hq.cell;(simp at q0 q1 q2 q3 q4 q5 q6 q7);clear hq
     go_wp2_with fail
     go_ret
     have T6:=T5.out
     rw [intVals_set] at T6
     exact plainP_tag T6 (by rw [List.length_set];exact hl) (by decide) (by decide) (mem_set_le HWS.out z _ (by omega) (by omega)) (sum_set HWS.out z _ (by omega) (by omega)) (by simp [World.setCell]) rfl
  .replace H:=aI ((H.out.new #[.string ⟨#[116,97,103]⟩,.string ⟨#[]⟩,.string ⟨#[]⟩,.int .i64 3,.int .i64 0,.int .i64 0,.slice (some ⟨N,0,none⟩) 2 3,.slice none 0 0] 65 rfl).push 3 1)
   generalize w1.heap.size=F at H ⊢
   go_loopg [6] 2 (λr i wr=>∃(j:Nat) (M1:List Nat) (v:Value) (ws:List Int),j+r=2/\i=.int .i64 j/\ws.length=j/\(∀x∈ws,0<=x/\x<=4)/\MkH K M1 ((F,65,#[.string ⟨#[116,97,103]⟩,.string ⟨#[]⟩,.string ⟨#[]⟩,.int .i64 3,.int .i64 0,.int .i64 0,.slice (some ⟨N,0,none⟩) 2 3,v])::bx) (⟨3,1,v,j,intVals ws⟩::rs) ((λM W=>SlAt M W (some ⟨N,0,none⟩) Sg.colors)::L) wr)
   case atStart=>exact ⟨0,_,_,[],by omega,rfl,rfl,(λ_ h=>by cases h),H.out⟩
   case round =>
    obtain ⟨j,M1,v,ws,hj,rfl,hl,hb,hT⟩:=hrel
    have T:=aI hT;have HWS:=aI hb
    clear hT hb H
    have hq:=T.out.box (.head _);have q7:=hq.cell 7;(simp at q7);clear hq
    obtain ⟨wo,rfl⟩:=aY wr
    by_cases hlt:j < 2
    .have k1:(j:Int) < 2:=by omega
     go_wp2_with fail
     letI:Grow:=K.grow
     apply zx (C:=λw'=>K.R wo w') (n:=103) (m:=5) (l1:=[_,_,_,_,_]) (l2:=[_,_,_]);rfl;rfl;kernel_rfl;rfl;kernel_rfl;exact K.drew wo;exact λu u' h hb=>h.trans hb
     iterate 3 ((apply aHx;·(intro w' hC hf;have q:=(T.out.turn hC).box (.head _);have q7:=q.cell 7;(simp at q7);clear q;clear hf hC;go_wp2_with (fail);apply aBx;simp only [zC];exact rfl));(try simp only [zn]))
     apply zb (T:=λv _=>∃z:Int,v=.int .i64 z/\0<=z/\z < 5) (λv w w' h _=>h)
     .intro w' hC hf;unfold RG.Gives;clear hf
      go_wp2_with fail
      go_at_call 20
      refine ((T.out.turn hC).take 5 (by omega) (by omega)).mono ?_
      rintro e w3 ⟨v,rfl,v1,v2,hr⟩
      go_wp2_with fail
      refine zd rfl hr ?_;simp only [zC];exact ⟨_,rfl,v1,v2⟩
     intro v41;(try simp only [zn])
     apply zb (litT_kept K wo.heap.size 1 3 (λcs=>∃z:Int,cs=#[.int .i64 z]/\0<=z/\z < 5) T.out.gmLt)
     .intro w' hC hf;unfold RG.Gives;obtain ⟨z,rfl,z1,z2⟩:=hf.1 rfl;clear hf
      have hs:=aI (K.size hC)
      clear hC
      go_wp2_with fail
      refine zd rfl (K.grown (by go_grown)) ?_;simp only [zC]
      exact ⟨_,_,rfl,⟨z,rfl,z1,z2⟩,hs.out,zj _ _ _⟩
     intro v42;(try simp only [zn])
     apply RG.wpT_done
     intro w4 hC hall
     obtain ⟨cs,N2,rfl,⟨z,rfl,z1,z2⟩,hge,hblk⟩:=hall.1
     obtain ⟨i0,hi,hz0,hz1,hz2⟩:=zq infoI1
     refine wpList_append_mk (by rfl) _ _ 22 (by rfl) 3 i0 _ 1 8 Tryz.underlying22 hi hz0 hz1 hz2 rfl (by decide) (T.out.turn hC) (by rfl) _ _ 1 1 [.int .i64 z] (by rfl) (reads_blk hblk rfl) (intVals_one [z]) (by unfold maxLen;omega) (by omega) ?_
     intro v5 w5 M5 h5 _
     obtain ⟨A5,c5,rfl⟩:=h5.form
     have hq:=h5.box (.head _);have f7:=hq.frozen 7;have d7:=hq.cell 7;(simp at d7);clear hq
     have T5:=aI (h5.set0 7 (.slice A5 (j+1) c5))
     clear h5 hblk hC hall hi hz0 hz1 hz2 q7 T this
     go_wp2_with fail
     go_roundg (gk - 1)
     case measure=>omega
     case rel =>
      refine ⟨j+1,M5,.slice A5 (j+1) c5,ws++[z],by omega,by go_num,by rw [aK,hl];rfl,λx hx=>?_,by rw [intVals_append];exact T5.out⟩
      rcases zE.1 hx with hx | hx
      .exact HWS.out x hx
      .rw [zg.1 hx];omega
    .have hjk:j=2:=by omega
     subst hjk
     obtain ⟨A,c,rfl⟩:=T.out.form
     obtain ⟨g,rfl,hcell⟩:=owns_cell (T.out.own _ (.head _)) (by decide)
     go_wp2_with fail
     letI:Grow:=K.grow
     apply zx (C:=λw'=>K.R wo w') (n:=103) (m:=10) (l1:=[_,_,_,_,_,_,_,_,_,_]) (l2:=[_]);rfl;rfl;kernel_rfl;rfl;kernel_rfl;exact K.drew wo;exact λu u' h hb=>h.trans hb
     iterate 5 ((apply aHx;·(intro w' hC hf;have q:=(T.out.turn hC).box (.head _);have q7:=q.cell 7;(simp at q7);clear q;clear hf hC;go_wp2_with (fail);apply aBx;simp only [zC];exact rfl));(try simp only [zn]))
     apply zb (T:=λv _=>∃z:Nat,v=.int .i64 z/\z < 2) (λv w w' h _=>h)
     .intro w' hC hf;unfold RG.Gives;clear hf
      go_wp2_with fail
      go_at_call 20
      refine ((T.out.turn hC).take 2 (by omega) (by omega)).mono ?_
      rintro e w3 ⟨v,rfl,v1,v2,hr⟩
      obtain ⟨z,rfl⟩:∃z:Nat,v=z:=⟨v.toNat,by omega⟩
      go_wp2_with fail
      refine zd rfl hr ?_;simp only [zC];exact ⟨z,rfl,by omega⟩
     intro v50;(try simp only [zn])
     (apply aHx;·(intro w' hC hf;clear hf hC;go_wp2_with (fail);apply aBx;simp only [zC];exact rfl));(try simp only [zn])
     apply zb (T:=λv _=>∃z:Int,v=.int .i64 z/\0<=z/\z < 3) (λv w w' h _=>h)
     .intro w' hC hf;unfold RG.Gives;clear hf
      go_wp2_with fail
      go_at_call 20
      refine ((T.out.turn hC).take 3 (by omega) (by omega)).mono ?_
      rintro e w3 ⟨v,rfl,v1,v2,hr⟩
      go_wp2_with fail
      refine zd rfl hr ?_;simp only [zC];exact ⟨_,rfl,v1,v2⟩
     intro v52;(try simp only [zn])
     apply zb (T:=λv _=>∃z:Int,v=.int .i64 (1+z)/\0<=z/\z < 3) (λv w w' h _=>h)
     .intro w' hC hf;unfold RG.Gives;obtain ⟨z,rfl,z1,z2⟩:=hf.1 rfl;clear hf hC
      go_wp2_with fail
      refine zd rfl (Grow.refl _) ?_;simp only [zC];exact ⟨_,rfl,z1,z2⟩
     intro v53;(try simp only [zn])
     apply zb (T:=λv _=>∃z:Nat,v=.pointer (some ⟨g,z,none⟩)/\z < 2) (λv w w' h _=>h)
     .intro w' hC hf;unfold RG.Gives;obtain ⟨z,rfl,z1⟩:=hf.2.2.1 rfl;clear hf hC
      go_wp2_with fail
      refine zd rfl (Grow.refl _) ?_;simp only [zC];exact ⟨z,by first | rfl | simp [Addr.add],z1⟩
     intro v54;(try simp only [zn])
     apply RG.wpT_done
     intro w4 hC hall
     obtain ⟨z,rfl,z1⟩:=hall.1
     obtain ⟨x,rfl,x1,x2⟩:=hall.2.1
     have T4:=aI (T.out.turn hC)
     clear hall hC hcell T this q7
     obtain ⟨g',cur,hg',hblk,_⟩:=owns_blk (T4.out.own _ (.head _)) (by decide)
     obtain rfl:g=g':=by injection hg' with h;injection h
     have fz:=hblk.frozen z
     obtain ⟨_,hgg,hcell⟩:=owns_cell (T4.out.own _ (.head _)) (by decide)
     obtain rfl:g=_:=by injection hgg with h;injection h
     have dz:=hcell z (.int .i64 (ws[z]'(by omega))) (by unfold intVals;rw [List.getElem?_map,zp (by omega)];rfl)
     have T5:=aI (T4.out.setRow (.int .i64 (1+x)) (k:=z) (by omega))
     clear hg' hgg hcell hblk T4
     have hq:=T5.out.box (.head _);obtain ⟨q0,q1,q2,q3,q4,q5,q6,q7⟩:=aN8 hq.cell;(simp at q0 q1 q2 q3 q4 q5 q6 q7);clear hq
     go_wp2_with fail
     go_ret
     have T6:=T5.out
     rw [intVals_set] at T6
     exact plainP_tag T6 (by rw [List.length_set];exact hl) (by decide) (by decide) (mem_set_le HWS.out z _ (by omega) (by omega)) (sum_set HWS.out z _ (by omega) (by omega)) (by simp [World.setCell]) rfl
  .replace H:=aI ((H.out.new #[.string ⟨#[116,97,103]⟩,.string ⟨#[]⟩,.string ⟨#[]⟩,.int .i64 3,.int .i64 0,.int .i64 0,.slice (some ⟨N,0,none⟩) 3 3,.slice none 0 0] 65 rfl).push 3 1)
   generalize w1.heap.size=F at H ⊢
   go_loopg [6] 3 (λr i wr=>∃(j:Nat) (M1:List Nat) (v:Value) (ws:List Int),j+r=3/\i=.int .i64 j/\ws.length=j/\(∀x∈ws,0<=x/\x<=4)/\MkH K M1 ((F,65,#[.string ⟨#[116,97,103]⟩,.string ⟨#[]⟩,.string ⟨#[]⟩,.int .i64 3,.int .i64 0,.int .i64 0,.slice (some ⟨N,0,none⟩) 3 3,v])::bx) (⟨3,1,v,j,intVals ws⟩::rs) ((λM W=>SlAt M W (some ⟨N,0,none⟩) Sg.colors)::L) wr)
   case atStart=>exact ⟨0,_,_,[],by omega,rfl,rfl,(λ_ h=>by cases h),H.out⟩
   case round =>
    obtain ⟨j,M1,v,ws,hj,rfl,hl,hb,hT⟩:=hrel
    have T:=aI hT;have HWS:=aI hb
    clear hT hb H
    have hq:=T.out.box (.head _);have q7:=hq.cell 7;(simp at q7);clear hq
    obtain ⟨wo,rfl⟩:=aY wr
    by_cases hlt:j < 3
    .have k1:(j:Int) < 3:=by omega
     go_wp2_with fail
     letI:Grow:=K.grow
     apply zx (C:=λw'=>K.R wo w') (n:=103) (m:=5) (l1:=[_,_,_,_,_]) (l2:=[_,_,_]);rfl;rfl;kernel_rfl;rfl;kernel_rfl;exact K.drew wo;exact λu u' h hb=>h.trans hb
     iterate 3 ((apply aHx;·(intro w' hC hf;have q:=(T.out.turn hC).box (.head _);have q7:=q.cell 7;(simp at q7);clear q;clear hf hC;go_wp2_with (fail);apply aBx;simp only [zC];exact rfl));(try simp only [zn]))
     apply zb (T:=λv _=>∃z:Int,v=.int .i64 z/\0<=z/\z < 5) (λv w w' h _=>h)
     .intro w' hC hf;unfold RG.Gives;clear hf
      go_wp2_with fail
      go_at_call 20
      refine ((T.out.turn hC).take 5 (by omega) (by omega)).mono ?_
      rintro e w3 ⟨v,rfl,v1,v2,hr⟩
      go_wp2_with fail
      refine zd rfl hr ?_;simp only [zC];exact ⟨_,rfl,v1,v2⟩
     intro v41;(try simp only [zn])
     apply zb (litT_kept K wo.heap.size 1 3 (λcs=>∃z:Int,cs=#[.int .i64 z]/\0<=z/\z < 5) T.out.gmLt)
     .intro w' hC hf;unfold RG.Gives;obtain ⟨z,rfl,z1,z2⟩:=hf.1 rfl;clear hf
      have hs:=aI (K.size hC)
      clear hC
      go_wp2_with fail
      refine zd rfl (K.grown (by go_grown)) ?_;simp only [zC]
      exact ⟨_,_,rfl,⟨z,rfl,z1,z2⟩,hs.out,zj _ _ _⟩
     intro v42;(try simp only [zn])
     apply RG.wpT_done
     intro w4 hC hall
     obtain ⟨cs,N2,rfl,⟨z,rfl,z1,z2⟩,hge,hblk⟩:=hall.1
     obtain ⟨i0,hi,hz0,hz1,hz2⟩:=zq infoI1
     refine wpList_append_mk (by rfl) _ _ 22 (by rfl) 3 i0 _ 1 8 Tryz.underlying22 hi hz0 hz1 hz2 rfl (by decide) (T.out.turn hC) (by rfl) _ _ 1 1 [.int .i64 z] (by rfl) (reads_blk hblk rfl) (intVals_one [z]) (by unfold maxLen;omega) (by omega) ?_
     intro v5 w5 M5 h5 _
     obtain ⟨A5,c5,rfl⟩:=h5.form
     have hq:=h5.box (.head _);have f7:=hq.frozen 7;have d7:=hq.cell 7;(simp at d7);clear hq
     have T5:=aI (h5.set0 7 (.slice A5 (j+1) c5))
     clear h5 hblk hC hall hi hz0 hz1 hz2 q7 T this
     go_wp2_with fail
     go_roundg (gk - 1)
     case measure=>omega
     case rel =>
      refine ⟨j+1,M5,.slice A5 (j+1) c5,ws++[z],by omega,by go_num,by rw [aK,hl];rfl,λx hx=>?_,by rw [intVals_append];exact T5.out⟩
      rcases zE.1 hx with hx | hx
      .exact HWS.out x hx
      .rw [zg.1 hx];omega
    .have hjk:j=3:=by omega
     subst hjk
     obtain ⟨A,c,rfl⟩:=T.out.form
     obtain ⟨g,rfl,hcell⟩:=owns_cell (T.out.own _ (.head _)) (by decide)
     go_wp2_with fail
     letI:Grow:=K.grow
     apply zx (C:=λw'=>K.R wo w') (n:=103) (m:=10) (l1:=[_,_,_,_,_,_,_,_,_,_]) (l2:=[_]);rfl;rfl;kernel_rfl;rfl;kernel_rfl;exact K.drew wo;exact λu u' h hb=>h.trans hb
     iterate 5 ((apply aHx;·(intro w' hC hf;have q:=(T.out.turn hC).box (.head _);have q7:=q.cell 7;(simp at q7);clear q;clear hf hC;go_wp2_with (fail);apply aBx;simp only [zC];exact rfl));(try simp only [zn]))
     apply zb (T:=λv _=>∃z:Nat,v=.int .i64 z/\z < 3) (λv w w' h _=>h)
     .intro w' hC hf;unfold RG.Gives;clear hf
      go_wp2_with fail
      go_at_call 20
      refine ((T.out.turn hC).take 3 (by omega) (by omega)).mono ?_
      rintro e w3 ⟨v,rfl,v1,v2,hr⟩
      obtain ⟨z,rfl⟩:∃z:Nat,v=z:=⟨v.toNat,by omega⟩
      go_wp2_with fail
      refine zd rfl hr ?_;simp only [zC];exact ⟨z,rfl,by omega⟩
     intro v50;(try simp only [zn])
     (apply aHx;·(intro w' hC hf;clear hf hC;go_wp2_with (fail);apply aBx;simp only [zC];exact rfl));(try simp only [zn])
     apply zb (T:=λv _=>∃z:Int,v=.int .i64 z/\0<=z/\z < 3) (λv w w' h _=>h)
     .intro w' hC hf;unfold RG.Gives;clear hf
      go_wp2_with fail
      go_at_call 20
      refine ((T.out.turn hC).take 3 (by omega) (by omega)).mono ?_
      rintro e w3 ⟨v,rfl,v1,v2,hr⟩
      go_wp2_with fail
      refine zd rfl hr ?_;simp only [zC];exact ⟨_,rfl,v1,v2⟩
     intro v52;(try simp only [zn])
     apply zb (T:=λv _=>∃z:Int,v=.int .i64 (1+z)/\0<=z/\z < 3) (λv w w' h _=>h)
     .intro w' hC hf;unfold RG.Gives;obtain ⟨z,rfl,z1,z2⟩:=hf.1 rfl;clear hf hC
      go_wp2_with fail
      refine zd rfl (Grow.refl _) ?_;simp only [zC];exact ⟨_,rfl,z1,z2⟩
     intro v53;(try simp only [zn])
     apply zb (T:=λv _=>∃z:Nat,v=.pointer (some ⟨g,z,none⟩)/\z < 3) (λv w w' h _=>h)
     .intro w' hC hf;unfold RG.Gives;obtain ⟨z,rfl,z1⟩:=hf.2.2.1 rfl;clear hf hC
      go_wp2_with fail
      refine zd rfl (Grow.refl _) ?_;simp only [zC];exact ⟨z,by first | rfl | simp [Addr.add],z1⟩
     intro v54;(try simp only [zn])
     apply RG.wpT_done
     intro w4 hC hall
     obtain ⟨z,rfl,z1⟩:=hall.1
     obtain ⟨x,rfl,x1,x2⟩:=hall.2.1
     have T4:=aI (T.out.turn hC)
     clear hall hC hcell T this q7
     obtain ⟨g',cur,hg',hblk,_⟩:=owns_blk (T4.out.own _ (.head _)) (by decide)
     obtain rfl:g=g':=by injection hg' with h;injection h
     have fz:=hblk.frozen z
     obtain ⟨_,hgg,hcell⟩:=owns_cell (T4.out.own _ (.head _)) (by decide)
     obtain rfl:g=_:=by injection hgg with h;injection h
     have dz:=hcell z (.int .i64 (ws[z]'(by omega))) (by unfold intVals;rw [List.getElem?_map,zp (by omega)];rfl)
     have T5:=aI (T4.out.setRow (.int .i64 (1+x)) (k:=z) (by omega))
     clear hg' hgg hcell hblk T4
     have hq:=T5.out.box (.head _);obtain ⟨q0,q1,q2,q3,q4,q5,q6,q7⟩:=aN8 hq.cell;(simp at q0 q1 q2 q3 q4 q5 q6 q7);clear hq
     go_wp2_with fail
     go_ret
     have T6:=T5.out
     rw [intVals_set] at T6
     exact plainP_tag T6 (by rw [List.length_set];exact hl) (by decide) (by decide) (mem_set_le HWS.out z _ (by omega) (by omega)) (sum_set HWS.out z _ (by omega) (by omega)) (by simp [World.setCell]) rfl
 .go_wp2_with fail
  go_at_call 20
  refine (H.out.take _ (by omega) (by omega)).mono ?_
  rintro e w1 ⟨a,rfl,a1,a2,hr⟩
  replace H:=aI (H.out.turn hr);clear hr
  go_wp2_with fail
  have T:=aI (H.out.new #[.string ⟨#[98,111,114,110]⟩,.string ⟨#[]⟩,.string ⟨#[]⟩,.int .i64 4,.int .i64 (a - 200),.int .i64 0,.slice none 0 0,.slice none 0 0] 65 rfl)
  generalize hW1:(w1.alloc _)=W1 at T ⊢
  have hN:w1.heap.size+1=W1.heap.size:=by rw [<-hW1];simp
  generalize w1.heap.size=N at T hN ⊢
  letI:Grow:=K.grow
  apply zx (C:=λw'=>K.R W1 w') (n:=103) (m:=6) (l1:=[_,_,_,_,_,_]) (l2:=[_]);rfl;rfl;kernel_rfl;rfl;kernel_rfl;exact K.drew W1;exact λu u' h hb=>h.trans hb
  iterate 3 ((apply aHx;·(intro w' hC hf;have q:=(T.out.turn hC).box (.head _);have q4:=q.cell 4;(simp at q4);clear q;clear hf hC;go_wp2_with (fail);apply aBx;simp only [zC];exact rfl));(try simp only [zn]))
  apply zb (T:=λv _=>∃z:Int,v=.int .i64 z/\0<=z/\z < 60) (λv w w' h _=>h)
  .intro w' hC hf;unfold RG.Gives;clear hf
   go_wp2_with fail
   go_at_call 20
   refine ((T.out.turn hC).take 60 (by omega) (by omega)).mono ?_
   rintro e w3 ⟨v,rfl,v1,v2,hr⟩
   go_wp2_with fail
   refine zd rfl hr ?_;simp only [zC];exact ⟨_,rfl,v1,v2⟩
  intro v66;(try simp only [zn])
  apply zb (T:=λv _=>∃z:Int,v=.int .i64 (a - 200+z)/\0<=z/\z < 60) (λv w w' h _=>h)
  .intro w' hC hf;unfold RG.Gives;obtain ⟨z,rfl,z1,z2⟩:=hf.1 rfl;clear hf hC
   go_wp2_with fail
   refine zd rfl (Grow.refl _) ?_;simp only [zC];exact ⟨_,rfl,z1,z2⟩
  intro v67;(try simp only [zn])
  (apply aHx;·(intro w' hC hf;clear hf hC;go_wp2_with (fail);apply aBx;simp only [zC];exact rfl));(try simp only [zn])
  apply RG.wpT_done
  intro w4 hC hall
  obtain ⟨b,rfl,b1,b2⟩:=hall.1
  replace T:=aI (T.out.turn hC)
  clear hC hall
  have q:=T.out.box (.head _);have f5:=q.frozen 5;have c5:=q.cell 5;(simp at c5);clear q
  clear hN hW1
  clear W1
  clear this
  go_wp2_with fail
  clear f5 c5
  replace T:=aI (T.out.set0 5 (.int .i64 (a - 200+b)))
  generalize hW2:(w4.setCell _ _)=W2 at T ⊢
  clear hW2 w4 H w1
  letI:Grow:=K.grow
  apply zx (C:=λw'=>K.R W2 w') (n:=103) (m:=8) (l1:=[_,_,_,_,_,_,_,_]) (l2:=[_]);rfl;rfl;kernel_rfl;rfl;kernel_rfl;exact K.drew W2;exact λu u' h hb=>h.trans hb
  iterate 2 ((apply aHx;·(intro w' hC hf;have q:=(T.out.turn hC).box (.head _);obtain ⟨q0,q1,q2,q3,q4,q5,q6,q7⟩:=aN8 q.cell;(simp at q0 q1 q2 q3 q4 q5 q6 q7);clear q;clear hf hC;go_wp2_with (fail);apply aBx;simp only [zC];exact rfl));(try simp only [zn]))
  apply zb (T:=λv _=>∃z:Int,v=.int .i64 z/\0<=z/\z < 3) (λv w w' h _=>h)
  .intro w' hC hf;unfold RG.Gives;clear hf
   go_wp2_with fail
   go_at_call 20
   refine ((T.out.turn hC).take 3 (by omega) (by omega)).mono ?_
   rintro e w3 ⟨v,rfl,v1,v2,hr⟩
   go_wp2_with fail
   refine zd rfl hr ?_;simp only [zC];exact ⟨_,rfl,v1,v2⟩
  intro v71;(try simp only [zn])
  (apply aHx;·(intro w' hC hf;clear hf hC;go_wp2_with (fail);apply aBx;simp only [zC];exact rfl));(try simp only [zn])
  apply zb (T:=λv _=>∃z:Int,v=.int .i64 z/\0<=z/\z < 30) (λv w w' h _=>h)
  .intro w' hC hf;unfold RG.Gives;clear hf
   go_wp2_with fail
   go_at_call 20
   refine ((T.out.turn hC).take 30 (by omega) (by omega)).mono ?_
   rintro e w3 ⟨v,rfl,v1,v2,hr⟩
   go_wp2_with fail
   refine zd rfl hr ?_;simp only [zC];exact ⟨_,rfl,v1,v2⟩
  intro v73;(try simp only [zn])
  apply zb (T:=λv _=>∃z:Int,v=.int .i64 (3+z)/\0<=z/\z < 30) (λv w w' h _=>h)
  .intro w' hC hf;unfold RG.Gives;obtain ⟨z,rfl,z1,z2⟩:=hf.1 rfl;clear hf hC
   go_wp2_with fail
   refine zd rfl (Grow.refl _) ?_;simp only [zC];exact ⟨_,rfl,z1,z2⟩
  intro v74;(try simp only [zn])
  apply zb (T:=λv _=>∃c d:Int,v=.agg #[.string ⟨#[108,101,102,116]⟩,.string ⟨#[98,111,114,110]⟩,.string ⟨#[]⟩,.int .i64 4,.int .i64 c,.int .i64 (3+d),.slice none 0 0,.slice none 0 0]/\0<=c/\c < 3/\0<=d/\d < 30) (λv w w' h _=>h)
  .intro w' hC hf;unfold RG.Gives;obtain ⟨d,rfl,d1,d2⟩:=hf.1 rfl;obtain ⟨c,rfl,c1,c2⟩:=hf.2.2.1 rfl;clear hf hC
   go_wp2_with fail
   refine zd rfl (Grow.refl _) ?_;simp only [zC];exact ⟨_,_,rfl,c1,c2,d1,d2⟩
  intro v75;(try simp only [zn])
  apply zb (litT_kept K W2.heap.size 2 65 (λcs=>∃c d:Int,cs=#[.string ⟨#[98,111,114,110]⟩,.string ⟨#[]⟩,.string ⟨#[]⟩,.int .i64 4,.int .i64 (a - 200),.int .i64 (a - 200+b),.slice none 0 0,.slice none 0 0,.string ⟨#[108,101,102,116]⟩,.string ⟨#[98,111,114,110]⟩,.string ⟨#[]⟩,.int .i64 4,.int .i64 c,.int .i64 (3+d),.slice none 0 0,.slice none 0 0]/\0<=c/\c < 3/\0<=d/\d < 30) T.out.gmLt)
  .intro w' hC hf;unfold RG.Gives;obtain ⟨c,d,rfl,c1,c2,d1,d2⟩:=hf.1 rfl;clear hf
   have hs:=aI (K.size hC)
   clear hC
   go_wp2_with fail
   refine zd rfl (K.grown (by go_grown)) ?_;simp only [zC]
   exact ⟨_,_,rfl,⟨c,d,rfl,c1,c2,d1,d2⟩,hs.out,zj _ _ _⟩
  intro v76;(try simp only [zn])
  apply RG.wpT_done
  intro w5 hC hall
  obtain ⟨cs,N2,rfl,⟨c,d,rfl,c1,c2,d1,d2⟩,hge,hblk⟩:=hall.1
  have hnm:N2∉N::M:=λhm=>by have:=T.out.mb _ hm;omega
  replace T:=aI (T.out.turn hC)
  have hp:=Sg.Plain.born (a - 200) b c d (by omega) (by omega) (by omega) (by omega) (by omega) (by omega) (by omega) (by omega)
  have T2:=aI (((T.out.lit (l:=[((⟨#[98,111,114,110]⟩,⟨#[]⟩,⟨#[]⟩,4,a - 200,a - 200+b,[],[]):Fld),(⟨#[108,101,102,116]⟩,⟨#[98,111,114,110]⟩,⟨#[]⟩,4,c,3+d,[],[])]) hblk hnm ((Flat.single (fld_mk (by decide) (by decide) (by decide) ⟨by omega,by omega⟩ ⟨by omega,by omega⟩ ⟨by omega,by omega⟩ rep_nil rep_nil)).append (Flat.single (fld_mk (by decide) (by decide) (by decide) ⟨by omega,by omega⟩ ⟨by omega,by omega⟩ ⟨by omega,by omega⟩ rep_nil rep_nil)))).boxes (.cons _ (List.Sublist.refl _))))
  clear hall hblk hC
  go_wp2_with fail
  go_ret
  exact plainP_of T2.out hp rfl (by decide) (by decide)
 .go_wp2_with fail
  go_at_call 20
  refine (H.out.take _ (by omega) (by omega)).mono ?_
  rintro e w1 ⟨a,rfl,a1,a2,hr⟩
  replace H:=aI (H.out.turn hr);clear hr
  go_wp2_with fail
  go_at_call 20
  refine (H.out.take _ (by omega) (by omega)).mono ?_
  rintro e w1 ⟨b,rfl,b1,b2,hr⟩
  replace H:=aI (H.out.turn hr);clear hr
  go_wp2_with fail
  go_ret
  have hp:=Sg.Plain.state a b (by omega) (by omega) (by omega) (by omega)
  refine plainP_lit H.out rfl rfl hp (Flat.single (fld_mk ?_ ?_ ?_ ⟨?_,?_⟩ ⟨?_,?_⟩ ⟨?_,?_⟩ rep_nil rep_nil)) <;> first | omega | decide
 .go_wp2_with fail
  go_at_call 20
  refine (H.out.take _ (by omega) (by omega)).mono ?_
  rintro e w1 ⟨a,rfl,a1,a2,hr⟩
  replace H:=aI (H.out.turn hr);clear hr
  go_wp2_with fail
  go_at_call 20
  refine (H.out.take _ (by omega) (by omega)).mono ?_
  rintro e w1 ⟨b,rfl,b1,b2,hr⟩
  replace H:=aI (H.out.turn hr);clear hr
  go_wp2_with fail
  go_at_call 20
  refine (H.out.take _ (by omega) (by omega)).mono ?_
  rintro e w1 ⟨c,rfl,c1,c2,hr⟩
  replace H:=aI (H.out.turn hr);clear hr
  go_wp2_with fail
  go_at_call 20
  refine (H.out.take _ (by omega) (by omega)).mono ?_
  rintro e w1 ⟨d,rfl,d1,d2,hr⟩
  replace H:=aI (H.out.turn hr);clear hr
  go_wp2_with fail
  go_ret
  have hp:=Sg.Plain.low a b c d (by omega) (by omega) (by omega) (by omega) (by omega) (by omega) (by omega) (by omega)
  refine plainP_lit H.out rfl rfl hp ((Flat.single (fld_mk ?_ ?_ ?_ ⟨?_,?_⟩ ⟨?_,?_⟩ ⟨?_,?_⟩ rep_nil rep_nil)).append (Flat.single (fld_mk ?_ ?_ ?_ ⟨?_,?_⟩ ⟨?_,?_⟩ ⟨?_,?_⟩ rep_nil rep_nil))) <;> first | omega | decide
 .go_wp2_with fail
  go_ret
  exact plainP_none H.out
end
section
namespace Sc
def ix {α:Type} (p:α->Bool):List α->Int
 | []=>-1
 | x::l=>if p x then 0 else if ix p l < 0 then -1 else ix p l+1
theorem ix_bd {α:Type} (p:α->Bool):∀l:List α,-1<=ix p l/\ix p l < l.length
 | []=>by simp [ix]
 | x::l=>by
  have h:=ix_bd p l
  rw [ix,zm]
  split
  .omega
  .split <;> omega
theorem ix_none {α:Type} {p:α->Bool}:∀{l:List α},(∀j (h:j < l.length),p l[j]=false)->ix p l=-1
 | [],_=>rfl
 | x::l,h=>by
  have h0:=h 0 (by simp)
  rw [List.getElem_cons_zero] at h0
  have h1:=ix_none (p:=p) (l:=l) λj hj=>by have:=h (j+1) (by simpa using hj);simpa using this
  rw [ix,h0,h1];rfl
theorem ix_some {α:Type} {p:α->Bool}:∀{l:List α} {k:Nat} (hk:k < l.length),p l[k]=true->(∀j (h:j < l.length),j < k->p l[j]=false)->ix p l=k
 | x::l,0,_,h,_=>by
  rw [List.getElem_cons_zero] at h
  rw [ix,h];rfl
 | x::l,k+1,hk,h,hb=>by
  have h0:=hb 0 (by simp) (by omega)
  rw [List.getElem_cons_zero] at h0
  have h1:=ix_some (p:=p) (l:=l) (k:=k) (by simpa using hk) (by simpa using h) λj hj hlt=>by have:=hb (j+1) (by simpa using hj) (by omega);simpa using this
  rw [ix,h0,h1]
  simp
  omega
theorem ix_get {α:Type} {p:α->Bool}:∀{l:List α},0<=ix p l->∃k,∃h:k < l.length,ix p l=k/\p l[k]=true
 | [],h=>by simp [ix] at h
 | x::l,h=>by
  rw [ix] at h ⊢
  by_cases hx:p x=true
  .rw [if_pos hx];exact ⟨0,by simp,rfl,hx⟩
  .rw [if_neg hx] at h ⊢
   by_cases hl:ix p l < 0
   .rw [if_pos hl] at h;omega
   .rw [if_neg hl]
    obtain ⟨k,hk,he,hp⟩:=ix_get (p:=p) (l:=l) (by omega)
    exact ⟨k+1,by simpa using hk,by rw [he];rfl,by simpa using hp⟩
theorem ix_neg {α:Type} {p:α->Bool}:∀{l:List α},ix p l < 0->∀x∈l,p x=false
 | [],_,_,h=>by cases h
 | x::l,h,y,hy=>by
  rw [ix] at h
  by_cases hx:p x=true
  .rw [if_pos hx] at h;omega
  .rw [if_neg hx] at h
   by_cases hl:ix p l < 0
   .rcases aL hy with rfl | hy
    .simpa using hx
    .exact ix_neg hl y hy
   .rw [if_neg hl] at h;omega
def named (s:ByteArray) (f:Fld):Bool:=decide (nm f=s)
def copyable (f:Fld):Bool:=decide (kd f≠0) && decide (kd f≠1) && decide (kd f≠6) && decide (kd f≠7)
end Sc
theorem strEq_t {a b:ByteArray} (h:a=b):(a.toList == b.toList)=true:=by rw [h];exact beq_self_eq_true _
theorem strEq_f {a b:ByteArray} (h:a≠b):(a.toList == b.toList)=false:=by
 rw [beq_eq_false_iff_ne]
 intro he
 apply h
 rw [ByteArray.toList_eq,ByteArray.toList_eq] at he
 cases a;cases b
 simp only [ByteArray.mk.injEq]
 exact Array.toList_inj.1 he
theorem has_any {G:List Nat} (l:List Fld) (A:Option Addr) (c:Nat) (s:ByteArray) (w:World) (hs:SlAt G w A l) (hm:l.length<=9223372036854775807) :
  Calls Tryz.prog 70 #[.slice A l.length c,.string s] w λe w'=>e=.returned (.int .i64 (Sc.ix (Sc.named s) l))/\Below w.heap.size w w':=by
 obtain ⟨n,hn⟩:=aX l.length
 rw [hn] at hm ⊢
 have HS:=aI hs;have HN:=aI hn
 obtain ⟨r,hr⟩:=aX (Sc.ix (Sc.named s) l)
 rw [hr]
 have HR:=aI hr
 clear hs hn hr
 go_enter Tryz.func70,Tryz.ntmps70
 go_wp2_with fail
 go_loopg [5] n (λr i wr=>∃(k:Nat),k+r=n/\i=.int .i64 k/\Below w.heap.size w wr/\∀j (h1:j < l.length),j < k->(Sc.named s) l[j]=false)
 case atStart=>exact ⟨0,by omega,rfl,zf _ _,λ_ _ h=>by omega⟩
 case round =>
  obtain ⟨k,hk,rfl,hbl,hall⟩:=hrel
  have HL:=aI hbl;have HE:=aI hall
  clear hbl hall
  obtain ⟨wo,rfl⟩:=aY wr
  by_cases hlt:k < n
  .have hka:k < l.length:=by rw [HN.out];exact hlt
   have k0:(0:Int)<=(k:Int):=aa _
   have k1:(k:Int) < (n:Int):=by omega
   obtain ⟨b1,o1,_,_,_,_,rfl,_,c0,_⟩:=fld_at (HS.out.keep (za HL.out)) k hka
   by_cases hy:Sc.nm l[k]=s
   .have hx:=decide_eq_true hy
    have HF:=aI (HR.out.symm.trans (Sc.ix_some (p:=Sc.named s) hka hx HE.out))
    have t1:=strEq_t hy
    generalize Sc.nm l[k]=y at c0 t1
    clear hy hx
    go_wp2_with fail
    go_ret
    exact ⟨ret_int HF.out.symm,by first | exact HL.out.drewN _ | exact HL.out.drew | exact HL.out | exact ⟨HL.out.os,HL.out.tape,HL.out.output,HL.out.size,HL.out.block⟩⟩
   .have hx:=qv hy
    have HX:=aI (show (Sc.named s) l[k]=false from hx)
    have t1:=strEq_f hy
    generalize Sc.nm l[k]=y at c0 t1
    clear hy hx
    go_wp2_with fail
    go_roundg (gk - 1)
    case measure=>omega
    case rel =>
     refine ⟨k+1,by omega,by go_num,?_,λj h1 hj=>?_⟩
     .first | exact HL.out.drewN _ | exact HL.out.drew | exact HL.out | exact ⟨HL.out.os,HL.out.tape,HL.out.output,HL.out.size,HL.out.block⟩
     .rcases aj j k with h' | h'
      .exact HE.out j h1 h'
      .obtain rfl:j=k:=by omega
       exact HX.out
  .have hkn:k=n:=by omega
   subst hkn
   have HF:=aI (HR.out.symm.trans (Sc.ix_none (p:=Sc.named s) λj hj=>HE.out j hj (by rw [HN.out] at hj;exact hj)))
   go_wp2_with fail
   go_ret
   exact ⟨ret_int HF.out.symm,HL.out⟩
theorem copied_any {G:List Nat} (l:List Fld) (A:Option Addr) (c:Nat) (kn:ByteArray) (klo khi:Int) (w:World) (hs:SlAt G w A l) (hm:l.length<=9223372036854775807) :
  Calls Tryz.prog 69 #[.agg #[.string kn,.int .i64 klo,.int .i64 khi,.slice A l.length c]] w λe w'=>e=.returned (.int .i64 (Sc.ix (Sc.copyable) l))/\Below w.heap.size w w':=by
 obtain ⟨n,hn⟩:=aX l.length
 rw [hn] at hm ⊢
 have HS:=aI hs;have HN:=aI hn
 obtain ⟨r,hr⟩:=aX (Sc.ix (Sc.copyable) l)
 rw [hr]
 have HR:=aI hr
 clear hs hn hr
 have T0:=aI ((held0 w [] (λ_ h=>by cases h)).new #[.string kn,.int .i64 klo,.int .i64 khi,.slice A n c] 52 rfl)
 go_enter Tryz.func69,Tryz.ntmps69
 go_wp2_with fail
 go_loopg [3] n (λr i wr=>∃(k:Nat) (M:List Nat),k+r=n/\i=.int .i64 k/\Held w [] M [(w.heap.size,52,#[.string kn,.int .i64 klo,.int .i64 khi,.slice A n c])] [] wr/\∀j (h1:j < l.length),j < k->(Sc.copyable) l[j]=false)
 case atStart=>exact ⟨0,_,by omega,rfl,T0.out,λ_ _ h=>by omega⟩
 case round =>
  obtain ⟨k,M,hk,rfl,hbl,hall⟩:=hrel
  have HL:=aI hbl;have HE:=aI hall
  clear hbl hall T0
  obtain ⟨wo,rfl⟩:=aY wr
  obtain ⟨y0,y1,y2,y3⟩:=cells4 (HL.out.box (.head _))
  by_cases hlt:k < n
  .have hka:k < l.length:=by rw [HN.out];exact hlt
   have k0:(0:Int)<=(k:Int):=aa _
   have k1:(k:Int) < (n:Int):=by omega
   obtain ⟨b1,o1,_,_,_,_,rfl,_,_,_,_,c0,_⟩:=fld_at (HS.out.keep (za HL.out.bl)) k hka
   obtain ⟨y,hy⟩:=aX (Sc.kd l[k])
   rw [hy] at c0
   rcases (show y=0∨y=1∨y=6∨y=7∨(y≠0/\y≠1/\y≠6/\y≠7) by omega) with rfl | rfl | rfl | rfl | ⟨y0,y1,y2,y3⟩
   .have hx:Sc.copyable l[k]=false:=by unfold Sc.copyable;rw [hy];rfl
    have HX:=aI (show (Sc.copyable) l[k]=false from hx)
    clear hy hx
    go_wp2_with fail
    go_roundg (gk - 1)
    case measure=>omega
    case rel =>
     refine ⟨k+1,M,by omega,by go_num,?_,λj h1 hj=>?_⟩
     .first | exact HL.out.drewN _ | exact HL.out.drew | exact HL.out
     .rcases aj j k with h' | h'
      .exact HE.out j h1 h'
      .obtain rfl:j=k:=by omega
       exact HX.out
   .have hx:Sc.copyable l[k]=false:=by unfold Sc.copyable;rw [hy];rfl
    have HX:=aI (show (Sc.copyable) l[k]=false from hx)
    clear hy hx
    go_wp2_with fail
    go_roundg (gk - 1)
    case measure=>omega
    case rel =>
     refine ⟨k+1,M,by omega,by go_num,?_,λj h1 hj=>?_⟩
     .first | exact HL.out.drewN _ | exact HL.out.drew | exact HL.out
     .rcases aj j k with h' | h'
      .exact HE.out j h1 h'
      .obtain rfl:j=k:=by omega
       exact HX.out
   .have hx:Sc.copyable l[k]=false:=by unfold Sc.copyable;rw [hy];rfl
    have HX:=aI (show (Sc.copyable) l[k]=false from hx)
    clear hy hx
    go_wp2_with fail
    go_roundg (gk - 1)
    case measure=>omega
    case rel =>
     refine ⟨k+1,M,by omega,by go_num,?_,λj h1 hj=>?_⟩
     .first | exact HL.out.drewN _ | exact HL.out.drew | exact HL.out
     .rcases aj j k with h' | h'
      .exact HE.out j h1 h'
      .obtain rfl:j=k:=by omega
       exact HX.out
   .have hx:Sc.copyable l[k]=false:=by unfold Sc.copyable;rw [hy];rfl
    have HX:=aI (show (Sc.copyable) l[k]=false from hx)
    clear hy hx
    go_wp2_with fail
    go_roundg (gk - 1)
    case measure=>omega
    case rel =>
     refine ⟨k+1,M,by omega,by go_num,?_,λj h1 hj=>?_⟩
     .first | exact HL.out.drewN _ | exact HL.out.drew | exact HL.out
     .rcases aj j k with h' | h'
      .exact HE.out j h1 h'
      .obtain rfl:j=k:=by omega
       exact HX.out
   .have hx:Sc.copyable l[k]=true:=by unfold Sc.copyable;rw [hy];simp [y0,y1,y2,y3]
    have HF:=aI (HR.out.symm.trans (Sc.ix_some (p:=Sc.copyable) hka hx HE.out))
    have t0:(y != 0)=true:=bne_iff_ne.2 y0
    have t1:(y != 1)=true:=bne_iff_ne.2 y1
    have t2:(y != 6)=true:=bne_iff_ne.2 y2
    have t3:(y != 7)=true:=bne_iff_ne.2 y3
    clear hy hx y0 y1 y2 y3
    go_wp2_with fail
    go_ret
    exact ⟨ret_int HF.out.symm,by first | exact HL.out.bl.drewN _ | exact HL.out.bl.drew | exact HL.out.bl | exact ⟨HL.out.bl.os,HL.out.bl.tape,HL.out.bl.output,HL.out.bl.size,HL.out.bl.block⟩⟩
  .have hkn:k=n:=by omega
   subst hkn
   have HF:=aI (HR.out.symm.trans (Sc.ix_none (p:=Sc.copyable) λj hj=>HE.out j hj (by rw [HN.out] at hj;exact hj)))
   go_wp2_with fail
   go_ret
   exact ⟨ret_int HF.out.symm,HL.out.bl⟩
namespace Sg
def bperson:ByteArray:=⟨#[112,101,114,115,111,110]⟩
def border:ByteArray:=⟨#[111,114,100,101,114]⟩
def bitem:ByteArray:=⟨#[105,116,101,109]⟩
def kname (n:Nat):ByteArray:=[bperson,border,bitem].getD n be
def bid:ByteArray:=⟨#[105,100]⟩
def bof:ByteArray:=⟨#[111,102]⟩
def bsame:ByteArray:=⟨#[115,97,109,101]⟩
def bpart:ByteArray:=⟨#[112,97,114,116]⟩
def btotal:ByteArray:=⟨#[116,111,116,97,108]⟩
def bby:ByteArray:=⟨#[98,121]⟩
def idF (lo:Int):Fld:=(bid,be,be,0,lo,0,[],[])
def ofF (k:ByteArray) (lo hi:Int):Fld:=(bof,k,be,1,lo,hi,[],[])
def sameF (s:ByteArray):Fld:=(bsame,s,bof,8,0,0,[],[])
def partF (lo hi:Int):Fld:=(bpart,btotal,bof,7,lo,hi,[],[])
def totalF (k:ByteArray):Fld:=(btotal,k,be,6,0,0,[],[])
def byF (k:ByteArray):Fld:=(bby,k,be,1,0,8,[],[])
def setF (k:Knd) (fs:List Fld):Knd:=(k.1,k.2.1,k.2.2.1,fs)
def okLo (lo:Int):Prop:=lo=0∨lo=1∨lo=100∨lo=-3
inductive Same (k:Knd):List Fld->Prop
 | none:Same k []
 | some (c:Nat) (h:c < (Sc.flds k).length):Sc.copyable (Sc.flds k)[c]=true->Same k [sameF (Sc.nm (Sc.flds k)[c])]
inductive Part (nm:ByteArray) (ks:List Knd) (tq:Nat) (h:tq < ks.length):List Fld->List Knd->Prop
 | none:Part nm ks tq h [] ks
 | some (lo d:Int):0<=lo->lo<=2->0<=d->d<=7->Sc.ix (Sc.named btotal) (Sc.flds ks[tq]) < 0->Part nm ks tq h [partF lo (lo+d)] (ks.set tq (setF ks[tq] (Sc.flds ks[tq]++[totalF nm])))
inductive Body (nm:ByteArray):List Knd->List Fld->List Knd->Prop
 | nil (lo:Int):okLo lo->Body nm [] [idF lo] []
 | cons (ks:List Knd) (tq:Nat) (h:tq < ks.length) (lo flo hi:Int) (same part:List Fld) (ks':List Knd):okLo lo->0<=flo->flo<=1->2<=hi->hi<=8->Same ks[tq] same->Part nm ks tq h part ks'->Body nm ks ([idF lo,ofF ks[tq].1 flo hi]++same++part) ks'
def By (ks ks':List Knd) (l:List Fld):Prop:=l=[]∨2<=ks.length/\∃k0,ks'[0]?=some k0/\l=[byF k0.1]
def Sec (fs l:List Fld):Prop:=l=[]∨Plain l/\∃f r,l=f::r/\Sc.ix (Sc.named (Sc.nm f)) fs < 0
inductive Fields (nm:ByteArray) (ks:List Knd):List Fld->List Knd->Prop
 | mk (fs:List Fld) (ks':List Knd) (by_ first second:List Fld):Body nm ks fs ks'->By ks ks' by_->Plain first->Sec (fs++by_++first) second->Fields nm ks (fs++by_++first++second) ks'
structure Kind (ks:List Knd) (k:Knd) (ks':List Knd):Prop where
 nm:k.1=kname ks.length
 lo0:0<=k.2.1
 lo4:k.2.1<=4
 hi0:k.2.1<=k.2.2.1
 hi4:k.2.2.1<=k.2.1+4
 fs:Fields k.1 ks (Sc.flds k) ks'
theorem Plain.len {fs:List Fld} (h:Plain fs):fs.length<=2:=by cases h <;> simp
theorem Same.len {k:Knd} {fs:List Fld} (h:Same k fs):fs.length<=1:=by cases h <;> simp
theorem Part.len {nm:ByteArray} {ks:List Knd} {tq:Nat} {h:tq < ks.length} {fs:List Fld} {ks':List Knd} (hp:Part nm ks tq h fs ks'):fs.length<=1/\ks'.length=ks.length:=by cases hp <;> simp
theorem Body.len {nm:ByteArray} {ks:List Knd} {fs:List Fld} {ks':List Knd} (h:Body nm ks fs ks'):1<=fs.length/\fs.length<=4/\ks'.length=ks.length:=by
 cases h with
 | nil lo _=>simp
 | cons _ tq hto lo flo hi same part _ _ _ _ _ _ h1 h2=>have:=h1.len;have:=h2.len;simp;omega
end Sg
theorem MkH.made {K:MkK} {M:List Nat} {bx:List Box} {rs:List Rw} {L:List (List Nat->World->Prop)} {W:World} (h:MkH K M bx rs L W) (cs:Array Value) (t:TypeId) {N:Nat} (hN:W.heap.size=N):MkH K M bx rs ((λM W=>N∉M/\Blk W N t cs)::L) (W.alloc (.cells cs t)):=by
 subst hN
 exact (h.below (aP _ _)).add (keeps_blk _ t cs) ⟨λhm=>by have:=h.mb _ hm;omega,zj _ _ _⟩
theorem HR.adopt {w W:World} {G M:List Nat} {bx:List Box} {rs:List Rw} {L:List (List Nat->World->Prop)} (h:HR w G M bx rs L W) {s:Nat} (hs:∀g∈M,g < s) (hrs:∀r∈rs,∀g,r.v.ownBlock=some g->g < s) {cs:Array Value} {t:TypeId} {N:Nat} (hw:w.heap.size<=N) (hsN:s<=N) (hlt:∀P∈L,P (N::M) W) (hb:Blk W N t cs):HR w G (N::M) ((N,t,cs)::bx) rs L W:=by
 have hbx:∀x∈bx,x.1≠N:=λx hx e=>by have:=hs _ (h.h.bs x hx).1;omega
 refine ⟨⟨h.h.bl,λg hg=>?_,λg hg=>.tail _ (h.h.gm g hg),λx hx=>?_,?_,λP hP=>⟨(h.h.all P hP).1,hlt P hP⟩⟩,λr hr g hg=>⟨.tail _ (h.ok r hr g hg).1,(h.ok r hr g hg).2.1,λx hx=>?_⟩,h.own,h.apart⟩
 .rcases aL hg with rfl | hg
  .exact hb.lt
  .exact h.h.mb g hg
 .rcases aL hx with rfl | hx
  .exact ⟨.head _,hw,hb⟩
  .exact ⟨.tail _ (h.h.bs x hx).1,(h.h.bs x hx).2⟩
 .rw [List.map_cons,List.nodup_cons]
  exact ⟨λhm=>by obtain ⟨x,hx,he⟩:=List.mem_map.1 hm;exact hbx x hx he,h.h.nd⟩
 .rcases aL hx with rfl | hx
  .have:=hrs r hr g hg;simp;omega
  .exact (h.ok r hr g hg).2.2 x hx
theorem MkH.adopt {K:MkK} {M:List Nat} {bx:List Box} {rs:List Rw} {L:List (List Nat->World->Prop)} {W W':World} (h:MkH K M bx rs L W) (hr:K.R W W') {cs:Array Value} {t:TypeId} {N:Nat} (hN:W.heap.size<=N) (hb:Blk W' N t cs):MkH K (N::M) ((N,t,cs)::bx) rs L W':=by
 obtain ⟨i,hi,H⟩:=h.it
 obtain ⟨i',hi',H'⟩:=H.mkr hi hr
 refine ⟨h.len,h.base,i',hi',(HR.adopt H' (s:=W.heap.size) H.h.mb (λr hr g hg=>H.h.mb g (H.ok r hr g hg).1) (ah H.h.bl.size hN) hN (λP hP=>?_) hb).bperm (List.Perm.swap _ _ _)⟩
 refine (H.h.all P hP).1.1 (N::M) W W' ((H.h.all P hP).1.2 M (N::M) W (H.h.all P hP).2 λg hg=>?_) (hr.chg.mono λg hg=>.inl ?_)
 .rcases aL hg with rfl | hg
  .exact .inr hN
  .exact .inl hg
 .rw [zg.1 hg];exact .tail _ (H.h.bs _ (.head _)).1
theorem flat_of_get {α:Type} [Mem α] {G:List Nat} {w:World}:∀{l:List α} {f:Nat->Value},(∀i (h:i < l.length),∃us,Mem.rep G w l[i] us/\∀j u,us[j]?=some u->f (i*Mem.sz α+j)=u)->Flat G w l ((List.range (l.length*Mem.sz α)).map f)
 | [],f,_=>by simp [Flat]
 | a::l,f,h=>by
  obtain ⟨us,h1,h2⟩:=h 0 (by simp)
  have hl:=Mem.len h1
  have ih:=flat_of_get (l:=l) (f:=λk=>f (Mem.sz α+k)) λi hi=>by
   obtain ⟨us',h3,h4⟩:=h (i+1) (by simpa using hi)
   refine ⟨us',by simpa using h3,λj u hu=>?_⟩
   rw [<-h4 j u hu]
   congr 1
   rw [Nat.add_mul];omega
  refine ⟨us,_,?_,by simpa using h1,ih⟩
  have e:(a::l).length*Mem.sz α=Mem.sz α+l.length*Mem.sz α:=by rw [zm,Nat.add_mul];omega
  rw [e,List.range_add,zY]
  congr 1
  .refine List.ext_getElem (by rw [zu,List.length_range,hl]) λj h1' h2'=>?_
   rw [List.getElem_map,List.getElem_range]
   have:=h2 j us[j] (by rw [zp])
   rw [Nat.zero_mul,zG] at this
   exact this
  .rw [List.map_map];rfl
theorem SlAt.reads {α:Type} [Mem α] {G:List Nat} {w:World} {A:Option Addr} {l:List α} (h:SlAt G w A l):∃xs,Reads w w.heap.size (Mem.sz α) A l.length xs/\Flat G w l xs:=by
 rcases h with rfl | ⟨b,o,rfl,hb,hg,h⟩
 .exact ⟨[],⟨by simp,λh=>zU h (by simp)⟩,rfl⟩
 .obtain ⟨f,hf⟩:∃f:Nat->Value,f=λk=>(w.cell? ⟨b,o+k,none⟩).getD (.bool false):=⟨_,rfl⟩
  have key:∀i (h:i < l.length),∃us,Mem.rep G w l[i] us/\∀j u,us[j]?=some u->f (i*Mem.sz α+j)=u:=λi hi=>by
   obtain ⟨us,h1,h2⟩:=h i hi
   exact ⟨us,h1,λj u hu=>by rw [hf];simp only;rw [h2 j u hu];rfl⟩
  refine ⟨_,⟨by simp,λhn=>⟨_,rfl,hb,λj u hu=>?_⟩⟩,flat_of_get key⟩
  rw [List.getElem?_map] at hu
  by_cases hj:j < l.length*Mem.sz α
  .rw [List.getElem?_range hj] at hu
   obtain rfl:f j=u:=by simpa using hu
   have hs:0 < Mem.sz α:=by
    rcases Nat.eq_zero_or_pos (Mem.sz α) with h0 | h0
    .rw [h0] at hj;omega
    .exact h0
   obtain ⟨us,h1,h2⟩:=h (j / Mem.sz α) (Nat.div_lt_of_lt_mul (by rw [Nat.mul_comm];exact hj))
   have hlt:j % Mem.sz α < us.length:=by rw [Mem.len h1];exact Nat.mod_lt _ hs
   have hc:=h2 (j % Mem.sz α) _ (zp hlt)
   rw [Nat.mul_comm,Nat.div_add_mod] at hc
   have e:(Addr.mk b o none).add j=⟨b,o+j,none⟩:=by
    unfold Addr.add;split
    .rename_i h0;rw [h0];rfl
    .rfl
   rw [e,hf];simp only;rw [hc];rfl
  .rw [List.getElem?_eq_none (by simpa using hj)] at hu;cases hu
theorem flat_setF {G:List Nat} {w:World} {fs:List Fld} {v:Value}:∀{ks:List Knd} {xs:List Value},Flat G w ks xs->∀(i:Nat) (h:i < ks.length),Rep G w fs v->Flat G w (ks.set i (Sg.setF ks[i] fs)) (xs.set (i*4+3) v)
 | [],_,_,i,h,_=>by simp at h
 | k::ks,xs,hf,0,_,hv=>by
  obtain ⟨us,ts,rfl,h1,h2⟩:=hf
  obtain ⟨u1,t1,rfl,⟨rfl,a1⟩,u2,t2,rfl,⟨rfl,a2⟩,u3,t3,rfl,⟨rfl,a3⟩,h4⟩:=h1
  obtain ⟨A,c,rfl,_⟩:=h4
  exact ⟨[_,_,_,v],ts,rfl,⟨[_],_,rfl,⟨rfl,a1⟩,[_],_,rfl,⟨rfl,a2⟩,[_],_,rfl,⟨rfl,a3⟩,hv⟩,h2⟩
 | k::ks,xs,hf,i+1,h,hv=>by
  obtain ⟨us,ts,rfl,h1,h2⟩:=hf
  have hl:=Mem.len h1
  have ih:=flat_setF h2 i (by simpa using h) hv
  refine ⟨us,_,?_,h1,ih⟩
  rw [List.set_append_right _ _ (by rw [hl];show 4<=_;omega)]
  congr 2
  rw [hl]
  show (i+1)*4+3 - 4=_
  omega
theorem MkH.putF {K:MkK} {M:List Nat} {bx:List Box} {rs:List Rw} {L:List (List Nat->World->Prop)} {W:World} {kb:Nat} {e t:TypeId} {a b c fv v:Value} {n:Nat} {fs news:List Fld} {fxs us:List Value}
  (h:MkH K M ((kb,t,#[a,b,c,fv])::bx) (⟨e,8,v,n,fxs++us⟩::rs) ((λM W=>Flat M W fs fxs)::L) W) (hu:Flat M W news us) :
  MkH K M ((kb,t,#[a,b,c,v])::bx) (⟨e,8,v,n,fxs++us⟩::rs) ((λM W=>Flat M W (fs++news) (fxs++us))::L) (W.setCell ⟨kb,3,none⟩ v):=by
 have h1:=((h.add (keeps_flat (fs++news) (fxs++us)) ((h.fact (.head _)).append hu)).less (L':=(λM W=>Flat M W (fs++news) (fxs++us))::L) λP hP=>by
  rcases aL hP with rfl | hP
  .exact .head _
  .exact .tail _ (.tail _ hP)).set0 3 v
 exact h1
theorem infoFld:(Tryz.prog.info? 65).map (λi=>(i.zero,i.size,i.bytes))=some (some (.agg #[.string ⟨#[]⟩,.string ⟨#[]⟩,.string ⟨#[]⟩,.int .i64 0,.int .i64 0,.int .i64 0,.slice none 0 0,.slice none 0 0]),8,120):=by kernel_rfl
def Late (n8:Nat) (us:List Value) (cur cur':Array Value):Prop:=cur'.size=cur.size/\∀j,cur'[j]?=cur[j]?∨(n8<=j/\∃u,us[j - n8]?=some u/\cur'[j]?=some u)
theorem Late.refl (n8:Nat) (us:List Value) (cur:Array Value):Late n8 us cur cur:=⟨rfl,λ_=>.inl rfl⟩
theorem Late.trans {n8:Nat} {us:List Value} {a b c:Array Value} (h:Late n8 us a b) (k:Late n8 us b c):Late n8 us a c :=
 ⟨k.1.trans h.1,λj=>by
  rcases k.2 j with e | e
  .rcases h.2 j with f | ⟨f1,u,f2,f3⟩
   .exact .inl (e.trans f)
   .exact .inr ⟨f1,u,f2,e.trans f3⟩
  .exact .inr e⟩
structure LR (gm:Nat) (t:TypeId) (sl:Value) (B0:Nat) (te:TypeId) (n8:Nat) (us:List Value) (W W':World):Prop where
 os:W'.os=W.os
 tape:W'.tape=W.tape
 output:W'.output=W.output
 size:W.heap.size<=W'.heap.size
 old:∀k,k < W.heap.size->k≠gm->W'.heap[k]?=W.heap[k]?∨(B0<=k/\∃cur cur',Blk W k te cur/\Blk W' k te cur'/\Late n8 us cur cur')
 box:∀i,inI i->Blk W gm t #[sl,.int .i64 i]->∃i',inI i'/\Blk W' gm t #[sl,.int .i64 i']
section
variable {gm:Nat} {t:TypeId} {sl:Value} {B0:Nat} {te:TypeId} {n8:Nat} {us:List Value} {W W' W'':World}
theorem LR.refl (gm:Nat) (t:TypeId) (sl:Value) (B0:Nat) (te:TypeId) (n8:Nat) (us:List Value) (W:World):LR gm t sl B0 te n8 us W W:=⟨rfl,rfl,rfl,ag _,λ_ _ _=>.inl rfl,λi h1 h2=>⟨i,h1,h2⟩⟩
theorem LR.trans (h:LR gm t sl B0 te n8 us W W') (k:LR gm t sl B0 te n8 us W' W''):LR gm t sl B0 te n8 us W W'':=by
 refine ⟨k.os.trans h.os,k.tape.trans h.tape,k.output.trans h.output,ah h.size k.size,λi hi hg=>?_,λi h1 h2=>?_⟩
 .rcases k.old i (qr hi h.size) hg with e | ⟨e1,c1,c2,e2,e3,e4⟩
  .rcases h.old i hi hg with f | ⟨f1,d1,d2,f2,f3,f4⟩
   .exact .inl (e.trans f)
   .exact .inr ⟨f1,d1,d2,f2,e.trans f3,f4⟩
  .rcases h.old i hi hg with f | ⟨f1,d1,d2,f2,f3,f4⟩
   .exact .inr ⟨e1,c1,c2,f.symm.trans e2,e3,e4⟩
   .have e:d2=c1:=by
     have:=f3.symm.trans e2
     injection this with this
     injection this
    subst e
    exact .inr ⟨f1,d1,c2,f2,e3,f4.trans e4⟩
 .obtain ⟨i',h1',h2'⟩:=h.box i h1 h2
  exact k.box i' h1' h2'
theorem LR.of_mk (h:MkR gm t sl W W'):LR gm t sl B0 te n8 us W W':=⟨h.chg.os,h.chg.tape,h.chg.output,h.chg.size,λk hk hg=>.inl (h.chg.block k hk (by simpa using hg)),h.box⟩
theorem LR.below (h:Below W.heap.size W W'):LR gm t sl B0 te n8 us W W':=LR.of_mk (MkR.below h)
theorem LR.mk_ (h:LR gm t sl B0 te n8 us W W') (hB:W.heap.size<=B0):MkR gm t sl W W' :=
 ⟨⟨h.os,h.tape,h.output,h.size,λk hk hg=>by
  rcases h.old k hk (by simpa using hg) with e | ⟨e,_⟩
  .exact e
  .omega⟩,h.box⟩
@[reducible] def lateGrow (gm:Nat) (t:TypeId) (sl:Value) (B0:Nat) (te:TypeId) (n8:Nat) (us:List Value):Grow:=⟨LR gm t sl B0 te n8 us,LR.refl gm t sl B0 te n8 us,LR.trans,LR.below⟩
theorem LR.blk (h:LR gm t sl B0 te n8 us W W') {N:Nat} {t':TypeId} {cs:Array Value} (hb:Blk W N t' cs) (hN:N≠gm) (hs:cs.size<=n8):Blk W' N t' cs:=by
 rcases h.old N hb.lt hN with e | ⟨_,c1,c2,e2,e3,e4⟩
 .exact e.trans hb
 .have:=hb.symm.trans e2
  injection this with this
  injection this with h1 h2
  subst h1 h2
  have e:c2=cs:=by
   refine Array.ext_getElem? λj=>?_
   rcases e4.2 j with e | ⟨e,u,f1,f2⟩
   .exact e
   .have hlt:=(Array.getElem?_eq_some_iff.1 f2).1
    have:=e4.1
    omega
  subst e
  exact e3
def RowN (B0:Nat) (te:TypeId) (size n:Nat) (xs:List Value) (v:Value) (w:World):Prop:=∃g cap cur,v=.slice (some ⟨g,0,none⟩) n cap/\B0<=g/\Blk w g te cur/\n<=cap/\cap<=maxLen/\cur.size=cap*size/\cur.toList.take (n*size)=xs
theorem rowN_kept {size n:Nat} {xs:List Value} (hg:gm < B0) (hx:∀j u,n8<=j->xs[j]?=some u->us[j - n8]?=some u):@RG.Kept (lateGrow gm t sl B0 te n8 us) (RowN B0 te size n xs):=by
 rintro v w w' ⟨g,cap,cur,h1,h2,h3,h4,h5,h6,h7⟩ hr
 have hr:LR gm t sl B0 te n8 us w w':=hr
 rcases hr.old g h3.lt (by omega) with e | ⟨_,c1,c2,e2,e3,e4⟩
 .exact ⟨g,cap,cur,h1,h2,e.trans h3,h4,h5,h6,h7⟩
 .have:=h3.symm.trans e2
  injection this with this
  injection this with h8
  subst h8
  refine ⟨g,cap,c2,h1,h2,e3,h4,h5,e4.1.trans h6,?_⟩
  rw [<-h7]
  refine List.ext_getElem? λj=>?_
  rw [List.getElem?_take,List.getElem?_take]
  split
  .rename_i hj
   rw [Array.getElem?_toList,Array.getElem?_toList]
   rcases e4.2 j with e | ⟨e,u,f1,f2⟩
   .exact e
   .have hlt:j < cur.size:=by have:=(Array.getElem?_eq_some_iff.1 f2).1;have:=e4.1;omega
    have hxj:xs[j]?=some cur[j]:=by
     rw [<-h7,List.getElem?_take,if_pos hj,Array.getElem?_toList];simp [hlt]
    have:=hx j _ e hxj
    rw [f1] at this
    injection this with this
    rw [f2,this];simp [hlt]
  .rfl
theorem RowN.owns {size n:Nat} {xs:List Value} {v:Value} {w:World} (h:RowN B0 te size n xs v w) (hl:xs.length=n*size):w.ownsRow B0 te size v n xs:=by
 obtain ⟨g,cap,cur,h1,h2,h3,h4,h5,h6,h7⟩:=h
 exact ⟨hl,.inr ⟨g,cap,cur,h1,h2,h3,h4,h5,h6,h7⟩⟩
theorem RowN.of_owns {size n base:Nat} {xs:List Value} {v:Value} {w:World} (h:w.ownsRow base te size v n xs) (hn:0 < n) (hb:B0<=base):RowN B0 te size n xs v w:=by
 rcases h.2 with ⟨_,h0⟩ | ⟨g,cap,cur,h1,h2,h3,h4,h5,h6,h7⟩
 .omega
 .exact ⟨g,cap,cur,h1,ah hb h2,h3,h4,h5,h6,h7⟩
theorem blk_setCells {g:Nat} {t':TypeId}:∀(vs:List Value) (o:Nat) (w:World) (cs:Array Value),Blk w g t' cs->∃cs',Blk (w.setCells g o vs) g t' cs'/\cs'.size=cs.size/\(∀j,j < o∨o+vs.length<=j->cs'[j]?=cs[j]?)/\∀j,j < vs.length->o+j < cs.size->cs'[o+j]?=vs[j]?
 | [],o,w,cs,h=>⟨cs,h,rfl,λ_ _=>rfl,λj hj=>by simp at hj⟩
 | v::vs,o,w,cs,h=>by
  obtain ⟨cs',h1,h2,h3,h4⟩:=blk_setCells vs (o+1) _ _ (h.set_ o v)
  rw [Array.size_setIfInBounds] at h2 h4
  refine ⟨cs',h1,h2,λj hj=>?_,λj hj ho=>?_⟩
  .rw [h3 j (by simp only [zm] at hj;omega)]
   simp only [zm] at hj
   rw [Array.getElem?_setIfInBounds_ne (by omega)]
  .cases j with
   | zero =>
    rw [h3 (o+0) (by omega)]
    have ho':o < cs.size:=by omega
    simp [ho']
   | succ j =>
    have:=h4 j (by simpa using hj) (by omega)
    rw [show o+(j+1)=o+1+j by omega,this]
    simp
theorem setCells_sizes (g:Nat):∀(vs:List Value) (o:Nat) (w:World),(w.setCells g o vs).heap.size=w.heap.size/\(w.setCells g o vs).tape=w.tape
 | [],_,_=>⟨rfl,rfl⟩
 | v::vs,o,w=>by
  have h:=setCells_sizes g vs (o+1) (w.setCell ⟨g,o,none⟩ v)
  exact ⟨h.1.trans (by simp [World.setCell]),h.2⟩
variable {P:Program}
theorem wpList_append_late {ops:Array Oper} {rest:List Oper} {o:Oper} {a:Act} {Q:Exit->Act->World->Prop} {w:World} (hgd:o.guard=none) (s x:Operand) (tt:TypeId)
  (ho:o.op=.call { callee:=.builtin .append,args:=#[s,x],argTypes:=#[tt,tt] })
  (i:TypeInfo) (z:Value) (size bytes:Nat) (ht:P.underlying tt=some (.slice te)) (hi:P.info? te=some i) (hz:i.zero=some z)
  (hsize:i.size=size) (hby:i.bytes=bytes) (hzs:z.cells.size=size) (hsz:0 < size)
  {v:Value} {n:Nat} {xs:List Value} (H:RowN B0 te size n xs v w) (hxs:xs.length=n*size) (_hn0:0 < n) (hs:a.eval s=v)
  {N:Nat} {cs:Array Value} {m c:Nat} (hx:a.eval x=.slice (some ⟨N,0,none⟩) m c) (hb:Blk w N te cs) (hcs:cs.toList=us) (hm:us.length=m*size) (h1:∀u∈us,u.oneCell'=true)
  (hn8:n8=n*size) (hgm:gm < B0) (hB:B0<=w.heap.size)
  (h63:n+m<=maxLen) (hbytes:(n+m)*bytes<=140737488355328)
  (h:∀v' w',RowN B0 te size (n+m) (xs++us) v' w'->LR gm t sl B0 te n8 us w w'->wpList P ops Q rest (a.put o.dst v') w'):wpList P ops Q (o::rest) a w:=by
 subst hn8
 obtain ⟨g,cap,cur,rfl,h2,h3,h4,h5,h6,h7⟩:=H
 have hcell:∀j u,xs[j]?=some u->w.cell? ⟨g,0+j,none⟩=some u:=λj u hu=>by
  rw [zG,h3.cell]
  have hj:=(List.getElem?_eq_some_iff.1 hu).1
  rw [<-h7,List.getElem?_take,if_pos (by omega),Array.getElem?_toList] at hu
  exact hu
 have hlit:∀j u,us[j]?=some u->w.cell? ((Addr.mk N 0 none).add j)=some u:=λj u hu=>by
  rw [Addr.add_lit,zG,hb.cell]
  rw [<-hcs,Array.getElem?_toList] at hu
  exact hu
 refine wpList_append_arg w hgd s x tt ho te i z size bytes ht hi hz hsize hby hzs hsz g 0 n cap xs hs hxs hcell ⟨N,0,none⟩ m c us hx hm hlit h1 (λhr j hj=>?_) h63 hbytes (λhr=>?_) (λhr v' w' k1 k2=>?_)
 .rw [h3.cell,h3.frozen]
  refine ⟨?_,rfl⟩
  have:(n+m)*size<=cap*size:=Nat.mul_le_mul_right _ hr
  rw [Nat.add_mul] at this
  have hlt:0+n*size+j < cur.size:=by omega
  simp
  omega
 .have hsp:(n+m)*size<=cap*size:=Nat.mul_le_mul_right _ hr
  rw [Nat.add_mul] at hsp
  obtain ⟨cs',b1,b2,b3,b4⟩:=blk_setCells us (0+n*size) w cur h3
  obtain ⟨z1,z2⟩:=setCells_sizes g us (0+n*size) w
  rw [zG] at b1 b3 b4 z1 z2 ⊢
  refine h _ _ ⟨g,cap,cs',rfl,h2,b1,hr,h5,b2.trans h6,?_⟩ ⟨World.os_setCells ..,z2,World.output_setCells ..,by rw [z1];exact ag _,λk hk hg=>?_,λi h1' h2'=>⟨i,h1',?_⟩⟩
  .refine List.ext_getElem? λj=>?_
   rw [List.getElem?_take]
   by_cases hj:j < (n+m)*size
   .rw [if_pos hj,Array.getElem?_toList]
    rw [Nat.add_mul] at hj
    by_cases hjn:j < n*size
    .rw [b3 j (.inl hjn),zX (by omega),<-h7,List.getElem?_take,if_pos hjn,Array.getElem?_toList]
    .rw [zL (by omega),hxs]
     have:=b4 (j - n*size) (by omega) (by omega)
     rw [show n*size+(j - n*size)=j by omega] at this
     exact this
   .rw [if_neg hj,List.getElem?_eq_none]
    rw [aK,hxs,hm,<-Nat.add_mul];omega
  .by_cases hkg:k=g
   .subst hkg
    refine .inr ⟨h2,cur,cs',h3,b1,b2,λj=>?_⟩
    by_cases hjn:j < n*size
    .exact .inl (b3 j (.inl hjn))
    .by_cases hjm:j < n*size+us.length
     .by_cases hjc:j < cur.size
      .right
       have:=b4 (j - n*size) (by omega) (by omega)
       rw [show n*size+(j - n*size)=j by omega] at this
       refine ⟨by omega,us[j - n*size]'(by omega),zp (by omega),?_⟩
       rw [this,zp (by omega)]
      .left
       rw [zV (by omega),zV (by omega)]
     .exact .inl (b3 j (.inr (by omega)))
   .exact .inl (World.heap_setCells_other w g _ us hk hkg)
  .exact (World.heap_setCells_other w g _ us h2'.lt (by omega)).trans h2'
 .have hbl:Below w.heap.size w w':=⟨k2.os,k2.tape,k2.output,k2.size,λk hk=>k2.block k hk (by simp)⟩
  exact h v' w' (RowN.of_owns k1 (by omega) hB) (LR.below hbl)
end
end
end Go.Proofs.YtobcnhmhgoccnaaGreatDoor
