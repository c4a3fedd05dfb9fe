/- Parts of the proof, joined: SyE1, SyE2, SyE3, SyE4, SyP. -/
import Derived.Test.YtobcnhmhgoccnaaGreatDoorV15
import Derived.Test.YtobcnhmhgoccnaaGreatDoorV18
set_option maxRecDepth 100000
set_option maxHeartbeats 16000000
set_option linter.unusedVariables false
set_option linter.unusedSimpArgs false
set_option linter.unusedSectionVars false
namespace Go.Proofs.YtobcnhmhgoccnaaGreatDoor
open Go Go.RowKit
section
theorem sl_of_blk {α:Type} [Mem α] {w:World} {g:Nat} {t:TypeId} {cs:Array Value} {ls:List α} (hb:Blk w g t cs) (hf:Flat [] w ls cs.toList) (hn:ls.length<=maxLen):SlAt [] w (some ⟨g,0,none⟩) ls:=by
 have hl:=Flat.len hf
 have own:w.ownsRow 0 t (Mem.sz α) (.slice (some ⟨g,0,none⟩) ls.length ls.length) ls.length cs.toList:=⟨hl,.inr ⟨g,ls.length,cs,rfl,zN _,hb,ag _,hn,by rw [<-Array.length_toList,hl],List.take_of_length_le (by rw [hl];exact ag _)⟩⟩
 obtain ⟨A,c,h1,_,_,h4⟩:=Rep.of_own own hf λg _ hg=>by cases hg
 injection h1 with h1 _
 injection h1 with h1
 rw [h1];exact h4
theorem rep_bytes {w:World} {l:List UInt8} {v:Value} (h:IsBytes l v w):Mem.rep [] w l [v]:=by
 obtain ⟨base,hown⟩:=h
 exact Rep.of_own hown (flat_bytes l) λg _ hg=>by cases hg
theorem form_bytes {w:World} {l:List UInt8} {v:Value} (h:IsBytes l v w):∃A c,v=.slice A l.length c:=by
 obtain ⟨base,hown⟩:=h
 exact zP hown
theorem flat_str {w:World}:∀{l:List ByteArray},(∀s∈l,s.size<=9223372036854775807)->Flat [] w l (l.map Value.string)
 | [],_=>rfl
 | s::l,h=>⟨[.string s],l.map Value.string,rfl,⟨rfl,h s (.head _)⟩,flat_str λy hy=>h y (.tail _ hy)⟩
theorem encF_any (x:Fld) (us:List Value) (w:World) (h:Mem.rep [] w x us) (FB:Sx.FW 2 x):Calls Tryz.prog 44 #[.agg us.toArray] w (BytesP (Sx.encF x) w):=by
 obtain ⟨A,c,B,d,rfl,s1,s2,i1,i2,i3,t1,t2,t3,-⟩:=rep_fld h
 have hfl:=Sx.encF_leW (ag 2) FB
 have hww:=FB.ws
 have hwn:=FB.ns
 have HWS:=aI (λ(s:ByteArray) hs=>ah (FB.w s hs) (show 16<=100000 by decide))
 have HS3:=aI (λ(W:World) (g:Nat) (hB:Blk W g 9 #[.string (Sc.nm x),.string (Sc.of_ x),.string (Sc.up x)])=>show SlAt [] W (some ⟨g,0,none⟩) [Sc.nm x,Sc.of_ x,Sc.up x] from sl_of_blk hB (flat_str (l:=[Sc.nm x,Sc.of_ x,Sc.up x]) (by simp only [zB,zr,zQ];rintro s (rfl | rfl | rfl) <;> assumption)) (show 3<=maxLen by decide))
 have HI3:=aI (λ(W:World) (g:Nat) (hB:Blk W g 3 #[.int .i64 (Sc.kd x),.int .i64 (Sc.lo x),.int .i64 (Sc.hi x)])=>show SlAt [] W (some ⟨g,0,none⟩) [Sc.kd x,Sc.lo x,Sc.hi x] from sl_of_blk hB (flat_intsB (l:=[Sc.kd x,Sc.lo x,Sc.hi x]) (by simp only [zB,zr,zQ];rintro s (rfl | rfl | rfl) <;> assumption)) (show 3<=maxLen by decide))
 have CS3:=aI (λ(W:World) (g:Nat) (hS:SlAt [] W (some ⟨g,0,none⟩) [Sc.nm x,Sc.of_ x,Sc.up x])=>show Calls Tryz.prog 49 #[.slice (some ⟨g,0,none⟩) 3 3] W _ from strings_any [Sc.nm x,Sc.of_ x,Sc.up x] (some ⟨g,0,none⟩) 3 W hS (show 3<=1000 by decide) (by
  have:=FB.nm;have:=FB.of_;have:=FB.up
  simp only [zB,zr,zQ];rintro s (rfl | rfl | rfl) <;> omega))
 have CI3:=aI (λ(W:World) (g:Nat) (hS:SlAt [] W (some ⟨g,0,none⟩) [Sc.kd x,Sc.lo x,Sc.hi x])=>show Calls Tryz.prog 43 #[.slice (some ⟨g,0,none⟩) 3 3] W _ from ints_any [Sc.kd x,Sc.lo x,Sc.hi x] (some ⟨g,0,none⟩) 3 W hS (show 3<=1000000 by decide))
 have CSW:=aI (λ(W:World) (hS:SlAt [] W A (Sc.words x))=>strings_any (Sc.words x) A c W hS (by omega) HWS.out)
 have CIN:=aI (λ(W:World) (hS:SlAt [] W B (Sc.wts x))=>ints_any (Sc.wts x) B d W hS (by omega))
 have HFL:=aI (show [Sx.encS [Sc.nm x,Sc.of_ x,Sc.up x],En.ints [Sc.kd x,Sc.lo x,Sc.hi x],Sx.encS (Sc.words x),En.ints (Sc.wts x)].flatten=Sx.encF x by unfold Sx.encF;simp [zo])
 have CC:=aI (λ(W:World) (g:Nat) (hS:SlAt [] W (some ⟨g,0,none⟩) [Sx.encS [Sc.nm x,Sc.of_ x,Sc.up x],En.ints [Sc.kd x,Sc.lo x,Sc.hi x],Sx.encS (Sc.words x),En.ints (Sc.wts x)])=>show Calls Tryz.prog 41 #[.slice (some ⟨g,0,none⟩) 4 4] W (BytesP (Sx.encF x) W) by rw [<-HFL.out];exact concat_any _ (some ⟨g,0,none⟩) 4 W hS (show 4<=1000 by decide) (by rw [HFL.out];omega))
 obtain ⟨nw,hnw⟩:=aX ((Sc.words x).length)
 obtain ⟨nn,hnn⟩:=aX ((Sc.wts x).length)
 rw [hnw] at CSW ⊢
 rw [hnn] at CIN ⊢
 have T:=aI ((((held0 w [] (λ_ h=>by cases h)).add (keeps_sl B (Sc.wts x)) s2).add (keeps_sl A (Sc.words x)) s1).made #[.string (Sc.nm x),.string (Sc.of_ x),.string (Sc.up x),.int .i64 (Sc.kd x),.int .i64 (Sc.lo x),.int .i64 (Sc.hi x),.slice A nw c,.slice B nn d] 65 rfl)
 clear h s1 s2 i1 i2 i3 t1 t2 t3 hfl hww hwn hnw hnn FB
 go_enter Tryz.func44,Tryz.ntmps44
 go_upto_region 1 with fail
 generalize w.alloc (.cells #[.string (Sc.nm x),.string (Sc.of_ x),.string (Sc.up x),.int .i64 (Sc.kd x),.int .i64 (Sc.lo x),.int .i64 (Sc.hi x),.slice A nw c,.slice B nn d] 65)=W1 at T ⊢
 generalize w.heap.size=N at T ⊢
 have hb1:=below_drewS W1
 apply zy (C:=λw'=>Below W1.heap.size W1 w') (n:=27) (m:=22) (l1:=[_,_,_,_,_,_,_,_,_,_,_,_,_,_,_,_,_,_,_,_,_,_]) (l2:=[_,_,_]);rfl;rfl;kernel_rfl;rfl;kernel_rfl;exact hb1;exact aR
 iterate 6 ((apply aJ;·(intro w' hC hf;obtain ⟨z0,z1,z2,z3,z4,z5,z6,z7⟩:=aM8 (((T.out.below hC).fact (.head _)).2);clear hf hC;go_wp2_with (fail);apply aO;simp only [zC];exact rfl));(try simp only [zn]))
 apply zF (slBlk_kept 3 9 #[.string (Sc.nm x),.string (Sc.of_ x),.string (Sc.up x)])
 .intro w' hC hf;unfold Gives;clear hf hC;go_wp2_with fail;apply zJ rfl (by go_grown);simp only [zC];exact ⟨_,rfl,zj _ _ _⟩
 intro vsl;(try simp only [zn])
 apply zF (isBytes_kept (Sx.encS [Sc.nm x,Sc.of_ x,Sc.up x]))
 .intro w' hC hf;unfold Gives
  obtain ⟨g,rfl,hB⟩:=hf.1 rfl;have HS:=aI (HS3.out _ _ hB);clear hB
  clear hf hC
  go_wp2_with (go_at_call 49;refine (CS3.out _ _ HS.out).mono ?_;rintro e w2 ⟨v,rfl,hown,hb⟩;have HO:=aI hown;have HBL:=aI hb;clear hown hb)
  apply zJ rfl HBL.out;simp only [zC];exact ⟨_,HO.out⟩
 intro v10;(try simp only [zn])
 iterate 6 ((apply aJ;·(intro w' hC hf;obtain ⟨z0,z1,z2,z3,z4,z5,z6,z7⟩:=aM8 (((T.out.below hC).fact (.head _)).2);clear hf hC;go_wp2_with (fail);apply aO;simp only [zC];exact rfl));(try simp only [zn]))
 apply zF (slBlk_kept 3 3 #[.int .i64 (Sc.kd x),.int .i64 (Sc.lo x),.int .i64 (Sc.hi x)])
 .intro w' hC hf;unfold Gives;clear hf hC;go_wp2_with fail;apply zJ rfl (by go_grown);simp only [zC];exact ⟨_,rfl,zj _ _ _⟩
 intro vsl;(try simp only [zn])
 apply zF (isBytes_kept (En.ints [Sc.kd x,Sc.lo x,Sc.hi x]))
 .intro w' hC hf;unfold Gives
  obtain ⟨g,rfl,hB⟩:=hf.1 rfl;have HS:=aI (HI3.out _ _ hB);clear hB
  clear hf hC
  go_wp2_with (go_at_call 43;refine (CI3.out _ _ HS.out).mono ?_;rintro e w2 ⟨v,rfl,hown,hb⟩;have HO:=aI hown;have HBL:=aI hb;clear hown hb)
  apply zJ rfl HBL.out;simp only [zC];exact ⟨_,HO.out⟩
 intro v18;(try simp only [zn])
 iterate 2 ((apply aJ;·(intro w' hC hf;obtain ⟨z0,z1,z2,z3,z4,z5,z6,z7⟩:=aM8 (((T.out.below hC).fact (.head _)).2);clear hf hC;go_wp2_with (fail);apply aO;simp only [zC];exact rfl));(try simp only [zn]))
 apply zF (isBytes_kept (Sx.encS (Sc.words x)))
 .intro w' hC hf;unfold Gives
  have HS:=aI ((T.out.below hC).fact (.tail _ (.head _)))
  clear hf hC
  go_wp2_with (go_at_call 49;refine (CSW.out _ HS.out).mono ?_;rintro e w2 ⟨v,rfl,hown,hb⟩;have HO:=aI hown;have HBL:=aI hb;clear hown hb)
  apply zJ rfl HBL.out;simp only [zC];exact ⟨_,HO.out⟩
 intro v21;(try simp only [zn])
 iterate 2 ((apply aJ;·(intro w' hC hf;obtain ⟨z0,z1,z2,z3,z4,z5,z6,z7⟩:=aM8 (((T.out.below hC).fact (.head _)).2);clear hf hC;go_wp2_with (fail);apply aO;simp only [zC];exact rfl));(try simp only [zn]))
 apply zF (isBytes_kept (En.ints (Sc.wts x)))
 .intro w' hC hf;unfold Gives
  have HS:=aI ((T.out.below hC).fact (.tail _ (.tail _ (.head _))))
  clear hf hC
  go_wp2_with (go_at_call 43;refine (CIN.out _ HS.out).mono ?_;rintro e w2 ⟨v,rfl,hown,hb⟩;have HO:=aI hown;have HBL:=aI hb;clear hown hb)
  apply zJ rfl HBL.out;simp only [zC];exact ⟨_,HO.out⟩
 intro v24;(try simp only [zn])
 apply wpT_done
 intro w4 hC hall
 have hb4:Below w4.heap.size w4 (w4.alloc (.cells #[v10,v18,v21,v24] 35)):=(zf _ _).alloc (ag _) _
 have hB:Blk (w4.alloc (.cells #[v10,v18,v21,v24] 35)) w4.heap.size 35 #[v10,v18,v21,v24]:=zj _ _ _
 have hsl:=sl_of_blk (ls:=[Sx.encS [Sc.nm x,Sc.of_ x,Sc.up x],En.ints [Sc.kd x,Sc.lo x,Sc.hi x],Sx.encS (Sc.words x),En.ints (Sc.wts x)]) hB ⟨[v10],_,rfl,rep_bytes (isBytes_kept _ _ _ _ hall.2.2.2.2.1 hb4),[v18],_,rfl,rep_bytes (isBytes_kept _ _ _ _ hall.2.2.1 hb4),[v21],_,rfl,rep_bytes (isBytes_kept _ _ _ _ hall.2.1 hb4),[v24],_,rfl,rep_bytes (isBytes_kept _ _ _ _ hall.1 hb4),rfl⟩ (show 4<=maxLen by decide)
 have HSL:=aI hsl
 obtain ⟨A10,c10,rfl⟩:=form_bytes hall.2.2.2.2.1
 obtain ⟨A18,c18,rfl⟩:=form_bytes hall.2.2.1
 obtain ⟨A21,c21,rfl⟩:=form_bytes hall.2.1
 obtain ⟨A24,c24,rfl⟩:=form_bytes hall.1
 have TB:=aI ((T.out.below hC).below hb4)
 clear hsl hB hall hC hb1 hb4 T
 go_wp2_with (go_at_call 41;refine (CC.out _ _ HSL.out).mono ?_;rintro e w2 ⟨v,rfl,hown,hb⟩;have HO:=aI hown;have HBL:=aI hb;clear hown hb)
 go_ret
 exact ⟨_,rfl,HO.out.mono TB.out.bl.size,TB.out.bl.trans (HBL.out.mono TB.out.bl.size)⟩
end
section
def IsNew (B:Nat) (l:List UInt8) (v:Value) (w:World):Prop:=w.ownsRow B 5 1 v l.length (byteVals l)
theorem isNew_kept (B:Nat) (l:List UInt8):Kept (IsNew B l):=λ_ _ _ h hb=>owns_below h hb
def SlL {α:Type} [Mem α] (ls:List α) (v:Value) (w:World):Prop:=∃g,v=.slice (some ⟨g,0,none⟩) ls.length ls.length/\SlAt [] w (some ⟨g,0,none⟩) ls
theorem slL_kept {α:Type} [Mem α] (ls:List α):Kept (SlL ls):=λ_ _ _ ⟨g,h1,h2⟩ hb=>⟨g,h1,h2.keep (za hb)⟩
theorem encK_any (x:Knd) (us:List Value) (w:World) (h:Mem.rep [] w x us) (KB:Sx.KW 2 x):Calls Tryz.prog 39 #[.agg us.toArray] w (BytesP (Sx.encK x) w):=by
 obtain ⟨A,c,rfl,s1,i1,i2,t1,-⟩:=rep_knd h
 have hkl:=Sx.encK_leW (ag 2) KB
 have hnm:=KB.nm
 have hnf:=KB.n
 have HI2:=aI (λ(W:World) (g:Nat) (hB:Blk W g 3 #[.int .i64 x.2.1,.int .i64 x.2.2.1])=>show SlAt [] W (some ⟨g,0,none⟩) [x.2.1,x.2.2.1] from sl_of_blk hB (flat_intsB (l:=[x.2.1,x.2.2.1]) (by simp only [zB,zr,zQ];rintro s (rfl | rfl) <;> assumption)) (show 2<=maxLen by decide))
 have CI2:=aI (λ(W:World) (g:Nat) (hS:SlAt [] W (some ⟨g,0,none⟩) [x.2.1,x.2.2.1])=>show Calls Tryz.prog 43 #[.slice (some ⟨g,0,none⟩) 2 2] W _ from ints_any [x.2.1,x.2.2.1] (some ⟨g,0,none⟩) 2 W hS (show 2<=1000000 by decide))
 have CB:=aI (λ(W:World)=>bytes_any x.1 W (by omega))
 have HFL:=aI (show [Sx.encB x.1,En.ints [x.2.1,x.2.2.1]].flatten=Sx.encB x.1++En.ints [x.2.1,x.2.2.1] by simp)
 have CC:=aI (λ(W:World) (g:Nat) (hS:SlAt [] W (some ⟨g,0,none⟩) [Sx.encB x.1,En.ints [x.2.1,x.2.2.1]])=>show Calls Tryz.prog 41 #[.slice (some ⟨g,0,none⟩) 2 2] W (BytesP (Sx.encB x.1++En.ints [x.2.1,x.2.2.1]) W) by
  rw [<-HFL.out]
  exact concat_any _ (some ⟨g,0,none⟩) 2 W hS (show 2<=1000 by decide) (by rw [HFL.out];unfold Sx.encK at hkl;simp only [aK] at hkl ⊢;omega))
 have HPRE:=aI (show Sx.pre Sx.encF (Sx.encB x.1++En.ints [x.2.1,x.2.2.1]) (Sc.flds x) (Sc.flds x).length=Sx.encK x by unfold Sx.pre Sx.encK;rw [List.take_length])
 have CL:=λ(W:World) (M:List Nat) (L:List (List Nat->World->Prop)) (v:Value) (hT:HRow w [] M [] L 5 1 v (Sx.encB x.1++En.ints [x.2.1,x.2.2.1]).length (byteVals (Sx.encB x.1++En.ints [x.2.1,x.2.2.1])) W) (hl:SlAt M W A (Sc.flds x))=>listF_any Sx.encF (Sc.flds x) _ v A c W hT hl (λf hf us W' h=>encF_any f us W' h (KB.f f hf)) (by omega) (by rw [HPRE.out];omega)
 rw [HPRE.out] at CL
 obtain ⟨nf,hnf'⟩:∃n,(Sc.flds x).length=n:=⟨_,rfl⟩
 rw [hnf'] at CL ⊢
 replace CL:=aI CL
 have T:=aI (((held0 w [] (λ_ h=>by cases h)).add (keeps_sl A (Sc.flds x)) s1).made #[.string x.1,.int .i64 x.2.1,.int .i64 x.2.2.1,.slice A nf c] 52 rfl)
 clear h s1 i1 i2 t1 hkl hnm hnf hnf' KB HPRE HFL
 go_enter Tryz.func39,Tryz.ntmps39
 go_upto_region 1 with fail
 generalize w.alloc (.cells #[.string x.1,.int .i64 x.2.1,.int .i64 x.2.2.1,.slice A nf c] 52)=W1 at T ⊢
 generalize w.heap.size=N at T ⊢
 have hb1:=below_drewS W1
 apply zy (C:=λw'=>Below W1.heap.size W1 w') (n:=17) (m:=13) (l1:=[_,_,_,_,_,_,_,_,_,_,_,_,_]) (l2:=[_,_]);rfl;rfl;kernel_rfl;rfl;kernel_rfl;exact hb1;exact aR
 iterate 2 ((apply aJ;·(intro w' hC hf;obtain ⟨z0,z1,z2,z3⟩:=aM4 (((T.out.below hC).fact (.head _)).2);clear hf hC;go_wp2_with (fail);apply aO;simp only [zC];exact rfl));(try simp only [zn]))
 apply zF (isBytes_kept (Sx.encB x.1))
 .intro w' hC hf;unfold Gives
  skip
  clear hf hC
  go_wp2_with (go_at_call 42;refine (CB.out _).mono ?_;rintro e w2 ⟨v,rfl,hown,hb⟩;have HO:=aI hown;have HBL:=aI hb;clear hown hb)
  apply zJ rfl HBL.out;simp only [zC];exact ⟨_,HO.out⟩
 intro v5;(try simp only [zn])
 iterate 4 ((apply aJ;·(intro w' hC hf;obtain ⟨z0,z1,z2,z3⟩:=aM4 (((T.out.below hC).fact (.head _)).2);clear hf hC;go_wp2_with (fail);apply aO;simp only [zC];exact rfl));(try simp only [zn]))
 apply zF (slBlk_kept 2 3 #[.int .i64 x.2.1,.int .i64 x.2.2.1])
 .intro w' hC hf;unfold Gives;clear hf hC;go_wp2_with fail;apply zJ rfl (by go_grown);simp only [zC];exact ⟨_,rfl,zj _ _ _⟩
 intro vsl;(try simp only [zn])
 apply zF (isBytes_kept (En.ints [x.2.1,x.2.2.1]))
 .intro w' hC hf;unfold Gives
  obtain ⟨g,rfl,hB⟩:=hf.1 rfl;have HS:=aI (HI2.out _ _ hB);clear hB
  clear hf hC
  go_wp2_with (go_at_call 43;refine (CI2.out _ _ HS.out).mono ?_;rintro e w2 ⟨v,rfl,hown,hb⟩;have HO:=aI hown;have HBL:=aI hb;clear hown hb)
  apply zJ rfl HBL.out;simp only [zC];exact ⟨_,HO.out⟩
 intro v11;(try simp only [zn])
 apply zF (slL_kept [Sx.encB x.1,En.ints [x.2.1,x.2.2.1]])
 .intro w' hC hf;unfold Gives
  have h11:=hf.1 rfl
  have h5:=hf.2.2.1 rfl
  have hb4:Below w'.heap.size w' (w'.alloc (.cells #[v5,v11] 35)):=(zf _ _).alloc (ag _) _
  have hB:Blk (w'.alloc (.cells #[v5,v11] 35)) w'.heap.size 35 #[v5,v11]:=zj _ _ _
  have hsl:=sl_of_blk (ls:=[Sx.encB x.1,En.ints [x.2.1,x.2.2.1]]) hB ⟨[v5],_,rfl,rep_bytes (isBytes_kept _ _ _ _ h5 hb4),[v11],_,rfl,rep_bytes (isBytes_kept _ _ _ _ h11 hb4),rfl⟩ (show 2<=maxLen by decide)
  have HSL:=aI hsl
  have HB4:=aI hb4
  obtain ⟨A5,c5,rfl⟩:=form_bytes h5
  obtain ⟨A11,c11,rfl⟩:=form_bytes h11
  clear hf hC h5 h11 hb4 hB hsl
  go_wp2_with fail
  apply zJ rfl HB4.out;simp only [zC];exact ⟨_,rfl,HSL.out⟩
 intro v12;(try simp only [zn])
 apply zF (isNew_kept W1.heap.size (Sx.encB x.1++En.ints [x.2.1,x.2.2.1]))
 .intro w' hC hf;unfold Gives
  obtain ⟨g,rfl,hB⟩:=hf.1 rfl;have HS:=aI hB;clear hB
  have HSZ:=aI hC.size
  clear hf hC
  go_wp2_with (go_at_call 41;refine (CC.out _ _ HS.out).mono ?_;rintro e w2 ⟨v,rfl,hown,hb⟩;have HO:=aI hown;have HBL:=aI hb;clear hown hb)
  apply zJ rfl HBL.out;simp only [zC];exact HO.out.mono HSZ.out
 intro v13;(try simp only [zn])
 iterate 2 ((apply aJ;·(intro w' hC hf;obtain ⟨z0,z1,z2,z3⟩:=aM4 (((T.out.below hC).fact (.head _)).2);clear hf hC;go_wp2_with (fail);apply aO;simp only [zC];exact rfl));(try simp only [zn]))
 apply wpT_done
 intro w4 hC hall
 obtain ⟨M1,hT,-⟩:=T.out.take hC hall.1
 have HT:=aI hT
 clear hall hC hb1 hT T
 go_wp2_with (go_at_call 40;refine (CL.out _ _ _ _ HT.out (HT.out.h.fact (.tail _ (.head _)))).mono ?_;rintro e w2 ⟨v,M2,rfl,hT2⟩;have HT2:=aI hT2;clear hT2)
 go_ret
 exact ⟨_,rfl,HT2.out.own,HT2.out.h.bl⟩
theorem encR_any (x:Rul) (us:List Value) (w:World) (h:Mem.rep [] w x us) (RB:Sx.RW x):Calls Tryz.prog 48 #[.agg us.toArray] w (BytesP (Sx.encR x) w):=by
 obtain ⟨i0,hi,hz0,hz1,hz2⟩:=zq infoU8
 obtain ⟨rfl,t1,t2,t3,t4,-⟩:=rep_rul h
 have hrl:=Sx.encR_leW RB
 have hn:=RB.n
 have HS4:=aI (λ(W:World) (g:Nat) (hB:Blk W g 9 #[.string x.1,.string x.2.1,.string x.2.2.1,.string x.2.2.2.1])=>show SlAt [] W (some ⟨g,0,none⟩) [x.1,x.2.1,x.2.2.1,x.2.2.2.1] from sl_of_blk hB (flat_str (l:=[x.1,x.2.1,x.2.2.1,x.2.2.2.1]) (by simp only [zB,zr,zQ];rintro s (rfl | rfl | rfl | rfl) <;> assumption)) (show 4<=maxLen by decide))
 have CS4:=aI (λ(W:World) (g:Nat) (hS:SlAt [] W (some ⟨g,0,none⟩) [x.1,x.2.1,x.2.2.1,x.2.2.2.1])=>show Calls Tryz.prog 49 #[.slice (some ⟨g,0,none⟩) 4 4] W _ from strings_any [x.1,x.2.1,x.2.2.1,x.2.2.2.1] (some ⟨g,0,none⟩) 4 W hS (show 4<=1000 by decide) (by
  have:=RB.nm;have:=RB.k;have:=RB.a;have:=RB.b
  simp only [zB,zr,zQ];rintro s (rfl | rfl | rfl | rfl) <;> omega))
 have CI:=λ(W:World)=>int_any x.2.2.2.2 W (by unfold inI;omega)
 have HEQ:=aI (show byteVals (Sx.encS [x.1,x.2.1,x.2.2.1,x.2.2.2.1])++byteVals (En.int x.2.2.2.2)=byteVals (Sx.encR x) by rw [<-byteVals_append];rfl)
 have hlen:(Sx.encS [x.1,x.2.1,x.2.2.1,x.2.2.2.1]).length+(En.int x.2.2.2.2).length=(Sx.encR x).length:=by unfold Sx.encR;rw [aK]
 have HLN:=aI hlen
 have T:=aI ((held0 w [] (λ_ h=>by cases h)).made #[.string x.1,.string x.2.1,.string x.2.2.1,.string x.2.2.2.1,.int .i64 x.2.2.2.2] 60 rfl)
 replace CI:=aI CI
 clear h t1 t2 t3 t4 RB hn
 go_enter Tryz.func48,Tryz.ntmps48
 go_upto_region 1 with fail
 generalize w.alloc (.cells #[.string x.1,.string x.2.1,.string x.2.2.1,.string x.2.2.2.1,.int .i64 x.2.2.2.2] 60)=W1 at T ⊢
 generalize w.heap.size=N at T ⊢
 have hb1:=below_drewS W1
 apply zy (C:=λw'=>Below W1.heap.size W1 w') (n:=17) (m:=13) (l1:=[_,_,_,_,_,_,_,_,_,_,_,_,_]) (l2:=[_,_]);rfl;rfl;kernel_rfl;rfl;kernel_rfl;exact hb1;exact aR
 iterate 8 ((apply aJ;·(intro w' hC hf;obtain ⟨z0,z1,z2,z3,z4⟩:=aM5 (((T.out.below hC).fact (.head _)).2);clear hf hC;go_wp2_with (fail);apply aO;simp only [zC];exact rfl));(try simp only [zn]))
 apply zF (slBlk_kept 4 9 #[.string x.1,.string x.2.1,.string x.2.2.1,.string x.2.2.2.1])
 .intro w' hC hf;unfold Gives;clear hf hC;go_wp2_with fail;apply zJ rfl (by go_grown);simp only [zC];exact ⟨_,rfl,zj _ _ _⟩
 intro vsl;(try simp only [zn])
 apply zF (isNew_kept W1.heap.size (Sx.encS [x.1,x.2.1,x.2.2.1,x.2.2.2.1]))
 .intro w' hC hf;unfold Gives
  obtain ⟨g,rfl,hB⟩:=hf.1 rfl;have HS:=aI (HS4.out _ _ hB);clear hB
  have HSZ:=aI hC.size
  clear hf hC
  go_wp2_with (go_at_call 49;refine (CS4.out _ _ HS.out).mono ?_;rintro e w2 ⟨v,rfl,hown,hb⟩;have HO:=aI hown;have HBL:=aI hb;clear hown hb)
  apply zJ rfl HBL.out;simp only [zC];exact HO.out.mono HSZ.out
 intro v12;(try simp only [zn])
 iterate 2 ((apply aJ;·(intro w' hC hf;obtain ⟨z0,z1,z2,z3,z4⟩:=aM5 (((T.out.below hC).fact (.head _)).2);clear hf hC;go_wp2_with (fail);apply aO;simp only [zC];exact rfl));(try simp only [zn]))
 apply zF (isBytes_kept (En.int x.2.2.2.2))
 .intro w' hC hf;unfold Gives
  skip
  clear hf hC
  go_wp2_with (go_at_call 17;refine (CI.out _).mono ?_;rintro e w2 ⟨v,rfl,hown,hb⟩;have HO:=aI hown;have HBL:=aI hb;clear hown hb)
  apply zJ rfl HBL.out;simp only [zC];exact ⟨_,HO.out⟩
 intro v15;(try simp only [zn])
 apply wpT_done
 intro w4 hC hall
 obtain ⟨M1,hT,-⟩:=T.out.take hC hall.2.1
 obtain ⟨base,hown⟩:=hall.1
 obtain ⟨A15,c15,rfl⟩:=zP hown
 have HR_:=aI (reads_own hown)
 replace T:=aI hT
 clear hall hC hb1 hT hown
 obtain ⟨nb,hnb⟩:=aX ((En.int x.2.2.2.2).length)
 rw [hnb] at HR_ HLN hlen ⊢
 go_wp2_with (at_builtin;refine wpList_append_row (by rfl) _ _ 35 (by rfl) 5 i0 _ 1 1 Tryz.underlying35 hi hz0 hz1 hz2 rfl (by decide) T.out (by rfl) _ _ nb _ (byteVals (En.int x.2.2.2.2)) (by rfl) HR_.out (byteVals_one _) (by unfold maxLen;omega) (by omega) ?_;intro v5 w6 M5 h5 _;rw [HEQ.out,HLN.out] at h5;have T8:=aI h5;clear h5)
 go_ret
 exact ⟨_,rfl,T8.out.own,T8.out.h.bl⟩
theorem infoIE:(Tryz.prog.info? 3).map (λi=>(i.zero,i.size,i.bytes))=some (some (.int .i64 0),1,8):=by kernel_rfl
theorem encL_any (x:Lif) (us:List Value) (w:World) (h:Mem.rep [] w x us) (LB:Sx.LW 2 x):Calls Tryz.prog 46 #[.agg us.toArray] w (BytesP (Sx.encL x) w):=by
 obtain ⟨i0,hi,hz0,hz1,hz2⟩:=zq infoIE
 obtain ⟨A,c,B,d,rfl,s1,s2,t1,-⟩:=rep_lif h
 have hll:=Sx.encL_leW (ag 2) LB
 have hnm:=LB.nm
 have hns:=LB.n
 have hmv:=LB.m
 have HV:=aI LB.v
 have HWS:=aI (λ(s:ByteArray) hs=>ah (LB.s s hs) (show 16<=100000 by decide))
 have CB:=aI (λ(W:World)=>bytes_any x.1 W (by omega))
 have CSW:=aI (λ(W:World) (hS:SlAt [] W A x.2.1)=>strings_any x.2.1 A c W hS (by omega) HWS.out)
 have hml:=Sx.mvs_len x.2.2
 have CIN:=aI (λ(W:World) (A3:Option Addr) (c3:Nat) (hS:SlAt [] W A3 (Sx.mvs x.2.2))=>ints_any (Sx.mvs x.2.2) A3 c3 W hS (by omega))
 have HIN:=aI (show ∀n∈Sx.mvs x.2.2,inI n by
  intro n hn
  unfold Sx.mvs at hn
  obtain ⟨m,hm,hn⟩:=List.mem_flatMap.1 hn
  have:=LB.v m hm
  simp only [zB,zr,zQ] at hn
  rcases hn with rfl | rfl <;> (unfold inI;omega))
 have HFL:=aI (show [Sx.encB x.1,Sx.encS x.2.1,En.ints (Sx.mvs x.2.2)].flatten=Sx.encL x by unfold Sx.encL;simp [zo])
 have CC:=aI (λ(W:World) (g:Nat) (hS:SlAt [] W (some ⟨g,0,none⟩) [Sx.encB x.1,Sx.encS x.2.1,En.ints (Sx.mvs x.2.2)])=>show Calls Tryz.prog 41 #[.slice (some ⟨g,0,none⟩) 3 3] W (BytesP (Sx.encL x) W) by rw [<-HFL.out];exact concat_any _ (some ⟨g,0,none⟩) 3 W hS (show 3<=1000 by decide) (by rw [HFL.out];omega))
 obtain ⟨ns,hns'⟩:∃n,x.2.1.length=n:=⟨_,rfl⟩
 obtain ⟨nm,hnm'⟩:∃n,x.2.2.length=n:=⟨_,rfl⟩
 rw [hnm'] at hml hmv
 rw [hml] at CIN
 rw [hns'] at CSW ⊢
 rw [hnm'] at ⊢
 have HNM:=aI hnm'
 have HML:=aI hml
 have T:=aI (HRow.start (e:=3) (size:=1) ((((held0 w [] (λ_ h=>by cases h)).add (keeps_sl B x.2.2) s2).add (keeps_sl A x.2.1) s1).made #[.string x.1,.slice A ns c,.slice B nm d] 57 rfl))
 clear h s1 s2 t1 hll hnm hns hns' hnm' LB hml
 go_enter Tryz.func46,Tryz.ntmps46
 go_upto_region 1 with fail
 generalize w.alloc (.cells #[.string x.1,.slice A ns c,.slice B nm d] 57)=W1 at T ⊢
 generalize w.heap.size=N at T ⊢
 obtain ⟨z0,z1,z2⟩:=aM3 ((T.out.h.fact (.head _)).2)
 go_wp2_with fail
 clear z0 z1 z2
 go_loopg [3,9] nm (λr v i wr=>∃(k:Nat) (M:List Nat),k+r=nm/\i=.int .i64 k/\HRow w [] M [] [λM W=>N∉M/\Blk W N 57 #[.string x.1,.slice A ns c,.slice B nm d],λM W=>SlAt M W A x.2.1,λM W=>SlAt M W B x.2.2] 3 1 v (2*k) (intVals (Sx.mvs (x.2.2.take k))) wr)
 case atStart=>exact ⟨0,_,by omega,rfl,T.out⟩
 case round =>
  clear T
  obtain ⟨k,M,hk,rfl,hH⟩:=hrel
  obtain ⟨wo,rfl⟩:=aY wr
  have T:=aI hH
  clear hH
  obtain ⟨q,hq⟩:=aX (2*k)
  rw [hq] at T
  have HQ:=aI hq
  by_cases hlt:k < nm
  .have hkl:k < x.2.2.length:=by rw [HNM.out];exact hlt
   have k0:(0:Int)<=(k:Int):=Int.natCast_nonneg _
   have k1:(k:Int) < (nm:Int):=by omega
   obtain ⟨b,o,us,rfl,_,hr,hc⟩:=SlAt.get (T.out.h.fact (.tail _ (.tail _ (.head _)))) k hkl
   have HTK:=aI (mvs_take x.2.2 k hkl)
   have hv:=HV.out _ (ze hkl)
   obtain ⟨mv,hmv'⟩:∃z,x.2.2[k]=z:=⟨_,rfl⟩
   rw [hmv'] at hr HTK hv
   obtain ⟨rfl,a1,a2⟩:=rep_mv hr
   rw [show Mem.sz (Int × Int)=2 from rfl] at hc
   have m0:wo.cell? ⟨b,o+k*2,none⟩=some (.int .i64 mv.1):=hc 0 _ rfl
   have m1:wo.cell? ⟨b,o+k*2+1,none⟩=some (.int .i64 mv.2):=hc 1 _ rfl
   have hb5:Below wo.heap.size wo (wo.alloc (.cells #[.int .i64 mv.1,.int .i64 mv.2] 58)):=(zf _ _).alloc (ag _) _
   have HB5:=aI (show Blk (wo.alloc (.cells #[.int .i64 mv.1,.int .i64 mv.2] 58)) wo.heap.size 58 #[.int .i64 mv.1,.int .i64 mv.2] from zj _ _ _)
   have T5:=aI (T.out.below hb5)
   have HST:=aI (show intVals (Sx.mvs (x.2.2.take k))++[.int .i64 mv.1,.int .i64 mv.2]=intVals (Sx.mvs (x.2.2.take (k+1))) by rw [HTK.out,intVals_append];rfl)
   clear hc hmv' hb5 T hq hv
   go_upto_region 5 with fail
   generalize wo.alloc (.cells #[.int .i64 mv.1,.int .i64 mv.2] 58)=w5 at HB5 T5 ⊢
   generalize wo.heap.size=N5 at HB5 ⊢
   clear m0 m1
   have HR_:=aI (reads_blk (m:=2) (size:=1) HB5.out rfl)
   go_wp2_with (at_builtin;refine wpList_append_row (by rfl) _ _ 22 (by rfl) 3 i0 _ 1 8 Tryz.underlying22 hi hz0 hz1 hz2 rfl (by decide) T5.out (by rfl) _ _ 2 _ [.int .i64 mv.1,.int .i64 mv.2] (by rfl) HR_.out (intVals_one [mv.1,mv.2]) (by unfold maxLen;have:=HQ.out;omega) (by have:=HQ.out;omega) ?_;intro v7 w7 M7 h7 _;rw [HST.out] at h7;have T7:=aI h7;clear h7)
   go_roundg (gk - 1)
   case measure=>omega
   case rel=>exact ⟨k+1,_,by omega,by go_num,by rw [show 2*(k+1)=q+2 by have:=HQ.out;omega];exact T7.out⟩
  .obtain rfl:k=nm:=by omega
   rw [show x.2.2.take k=x.2.2 by rw [<-HNM.out,List.take_length]] at T
   have hown:=T.out.own
   obtain ⟨A3,c3,rfl⟩:=zP hown
   have HSI:=aI (λ(W:World) (hW:Below wo.heap.size wo W)=>show SlAt [] W A3 (Sx.mvs x.2.2) from by
    have ho:=owns_below hown hW
    rw [show q=(Sx.mvs x.2.2).length by rw [HML.out,HQ.out]] at ho
    obtain ⟨A',c',h1,_,_,h4⟩:=Rep.of_own ho (flat_intsB (G:=[]) HIN.out) λg _ hg=>by cases hg
    injection h1 with h1 _
    injection h1 with h1
    rw [h1];exact h4)
   rw [hq] at CIN
   obtain ⟨z0,z1,z2⟩:=aM3 ((T.out.h.fact (.head _)).2)
   clear hown hq
   go_upto_region 7 with fail
   clear z0 z1 z2
   have hb1:=below_drewS wo
   apply zy (C:=λw'=>Below wo.heap.size wo w') (n:=27) (m:=8) (l1:=[_,_,_,_,_,_,_,_]) (l2:=[_,_,_]);rfl;rfl;kernel_rfl;rfl;kernel_rfl;exact hb1;exact aR
   iterate 2 ((apply aJ;·(intro w' hC hf;obtain ⟨z0,z1,z2⟩:=aM3 (((T.out.below hC).h.fact (.head _)).2);clear hf hC;go_wp2_with (fail);apply aO;simp only [zC];exact rfl));(try simp only [zn]))
   apply zF (isBytes_kept (Sx.encB x.1))
   .intro w' hC hf;unfold Gives
    skip
    clear hf hC
    go_wp2_with (go_at_call 42;refine (CB.out _).mono ?_;rintro e w2 ⟨v,rfl,hown,hb⟩;have HO:=aI hown;have HBL:=aI hb;clear hown hb)
    apply zJ rfl HBL.out;simp only [zC];exact ⟨_,HO.out⟩
   intro v19;(try simp only [zn])
   iterate 2 ((apply aJ;·(intro w' hC hf;obtain ⟨z0,z1,z2⟩:=aM3 (((T.out.below hC).h.fact (.head _)).2);clear hf hC;go_wp2_with (fail);apply aO;simp only [zC];exact rfl));(try simp only [zn]))
   apply zF (isBytes_kept (Sx.encS x.2.1))
   .intro w' hC hf;unfold Gives
    have HS:=aI (((T.out.below hC).h.fact (.tail _ (.head _))).sub (G':=[]) (λg hg=>by cases hg))
    clear hf hC
    go_wp2_with (go_at_call 49;refine (CSW.out _ HS.out).mono ?_;rintro e w2 ⟨v,rfl,hown,hb⟩;have HO:=aI hown;have HBL:=aI hb;clear hown hb)
    apply zJ rfl HBL.out;simp only [zC];exact ⟨_,HO.out⟩
   intro v22;(try simp only [zn])
   (apply aJ;·(intro w' hC hf;obtain ⟨z0,z1,z2⟩:=aM3 (((T.out.below hC).h.fact (.head _)).2);clear hf hC;go_wp2_with (fail);apply aO;simp only [zC];exact rfl));(try simp only [zn])
   apply zF (isBytes_kept (En.ints (Sx.mvs x.2.2)))
   .intro w' hC hf;unfold Gives
    have HS:=aI (HSI.out _ hC)
    clear hf hC
    go_wp2_with (go_at_call 43;refine (CIN.out _ _ _ HS.out).mono ?_;rintro e w2 ⟨v,rfl,hown,hb⟩;have HO:=aI hown;have HBL:=aI hb;clear hown hb)
    apply zJ rfl HBL.out;simp only [zC];exact ⟨_,HO.out⟩
   intro v24;(try simp only [zn])
   apply wpT_done
   intro w4 hC hall
   have hb4:Below w4.heap.size w4 (w4.alloc (.cells #[v19,v22,v24] 35)):=(zf _ _).alloc (ag _) _
   have hB:Blk (w4.alloc (.cells #[v19,v22,v24] 35)) w4.heap.size 35 #[v19,v22,v24]:=zj _ _ _
   have hsl:=sl_of_blk (ls:=[Sx.encB x.1,Sx.encS x.2.1,En.ints (Sx.mvs x.2.2)]) hB ⟨[v19],_,rfl,rep_bytes (isBytes_kept _ _ _ _ hall.2.2.1 hb4),[v22],_,rfl,rep_bytes (isBytes_kept _ _ _ _ hall.2.1 hb4),[v24],_,rfl,rep_bytes (isBytes_kept _ _ _ _ hall.1 hb4),rfl⟩ (show 3<=maxLen by decide)
   have HSL:=aI hsl
   obtain ⟨A19,c19,rfl⟩:=form_bytes hall.2.2.1
   obtain ⟨A22,c22,rfl⟩:=form_bytes hall.2.1
   obtain ⟨A24,c24,rfl⟩:=form_bytes hall.1
   have TB:=aI ((T.out.h.below hC).below hb4)
   clear hsl hB hall hC hb1 hb4 T
   go_wp2_with (go_at_call 41;refine (CC.out _ _ HSL.out).mono ?_;rintro e w2 ⟨v,rfl,hown,hb⟩;have HO:=aI hown;have HBL:=aI hb;clear hown hb)
   go_ret
   exact ⟨_,rfl,HO.out.mono TB.out.bl.size,TB.out.bl.trans (HBL.out.mono TB.out.bl.size)⟩
theorem penc_any (x:Sch) (us:List Value) (w:World) (h:Mem.rep [] w x us) (OB:Sx.WB 2 x):Calls Tryz.prog 12 #[.agg us.toArray] w (BytesP (Sx.enc x) w):=by
 obtain ⟨A,c,B,d,C,e,rfl,s1,s2,s3,-⟩:=rep_sch h
 have hel:=Sx.enc_leW (ag 2) OB
 have hv:=OB.v
 have hnk:=OB.nk;have hnl:=OB.nl;have hnr:=OB.nr
 have CI:=λ(W:World)=>int_any x.1 W (by unfold inI;omega)
 have HPRE:=aI (show Sx.pre Sx.encR (Sx.pre Sx.encL (Sx.pre Sx.encK (En.int x.1) (Sc.kinds x) (Sc.kinds x).length) x.2.2.1 x.2.2.1.length) x.2.2.2 x.2.2.2.length=Sx.enc x by unfold Sx.pre Sx.enc;simp only [List.take_length])
 have hb3:(Sx.pre Sx.encR (Sx.pre Sx.encL (Sx.pre Sx.encK (En.int x.1) (Sc.kinds x) (Sc.kinds x).length) x.2.2.1 x.2.2.1.length) x.2.2.2 x.2.2.2.length).length<=1000000:=by rw [HPRE.out];omega
 have hb2:(Sx.pre Sx.encL (Sx.pre Sx.encK (En.int x.1) (Sc.kinds x) (Sc.kinds x).length) x.2.2.1 x.2.2.1.length).length<=1000000:=by
  refine ah ?_ hb3
  generalize Sx.pre Sx.encL (Sx.pre Sx.encK (En.int x.1) (Sc.kinds x) (Sc.kinds x).length) x.2.2.1 x.2.2.1.length=p
  unfold Sx.pre;simp only [aK];omega
 have hb1:(Sx.pre Sx.encK (En.int x.1) (Sc.kinds x) (Sc.kinds x).length).length<=1000000:=by
  refine ah ?_ hb2
  generalize Sx.pre Sx.encK (En.int x.1) (Sc.kinds x) (Sc.kinds x).length=p
  unfold Sx.pre;simp only [aK];omega
 have CLK:=λ(W:World) (M:List Nat) (L:List (List Nat->World->Prop)) (v:Value) (hT:HRow w [] M [] L 5 1 v (En.int x.1).length (byteVals (En.int x.1)) W) (hl:SlAt M W A (Sc.kinds x))=>listK_any Sx.encK (Sc.kinds x) (En.int x.1) v A c W hT hl (λf hf us W' h=>encK_any f us W' h (OB.k f hf)) (by omega) hb1
 have CLL:=λ(W:World) (M:List Nat) (L:List (List Nat->World->Prop)) (v:Value) (hT:HRow w [] M [] L 5 1 v (Sx.pre Sx.encK (En.int x.1) (Sc.kinds x) (Sc.kinds x).length).length (byteVals (Sx.pre Sx.encK (En.int x.1) (Sc.kinds x) (Sc.kinds x).length)) W) (hl:SlAt M W B (x.2.2.1))=>listL_any Sx.encL (x.2.2.1) (Sx.pre Sx.encK (En.int x.1) (Sc.kinds x) (Sc.kinds x).length) v B d W hT hl (λf hf us W' h=>encL_any f us W' h (OB.l f hf)) (by omega) hb2
 have CLR:=λ(W:World) (M:List Nat) (L:List (List Nat->World->Prop)) (v:Value) (hT:HRow w [] M [] L 5 1 v (Sx.pre Sx.encL (Sx.pre Sx.encK (En.int x.1) (Sc.kinds x) (Sc.kinds x).length) x.2.2.1 x.2.2.1.length).length (byteVals (Sx.pre Sx.encL (Sx.pre Sx.encK (En.int x.1) (Sc.kinds x) (Sc.kinds x).length) x.2.2.1 x.2.2.1.length)) W) (hl:SlAt M W C (x.2.2.2))=>listR_any Sx.encR (x.2.2.2) (Sx.pre Sx.encL (Sx.pre Sx.encK (En.int x.1) (Sc.kinds x) (Sc.kinds x).length) x.2.2.1 x.2.2.1.length) v C e W hT hl (λf hf us W' h=>encR_any f us W' h (OB.r f hf)) (by omega) hb3
 rw [HPRE.out] at CLR
 obtain ⟨p1,hp1⟩:=aX (Sx.pre Sx.encK (En.int x.1) (Sc.kinds x) (Sc.kinds x).length)
 rw [hp1] at CLK CLL CLR
 obtain ⟨p2,hp2⟩:=aX (Sx.pre Sx.encL p1 x.2.2.1 x.2.2.1.length)
 rw [hp2] at CLL CLR
 obtain ⟨nk,hk⟩:=aX ((Sc.kinds x).length)
 obtain ⟨nl,hl⟩:=aX x.2.2.1.length
 obtain ⟨nr,hr⟩:=aX x.2.2.2.length
 rw [hk] at CLK ⊢
 rw [hl] at CLL ⊢
 rw [hr] at CLR ⊢
 replace CI:=aI CI
 replace CLK:=aI CLK
 replace CLL:=aI CLL
 replace CLR:=aI CLR
 have T:=aI (((((held0 w [] (λ_ h=>by cases h)).add (keeps_sl C x.2.2.2) s3).add (keeps_sl B x.2.2.1) s2).add (keeps_sl A (Sc.kinds x)) s1).made #[.int .i64 x.1,.slice A nk c,.slice B nl d,.slice C nr e] 27 rfl)
 clear h s1 s2 s3 hel hv hnk hnl hnr HPRE hb1 hb2 hb3 hp1 hp2 hk hl hr OB
 go_enter Tryz.func12,Tryz.ntmps12
 go_upto_region 1 with fail
 generalize w.alloc (.cells #[.int .i64 x.1,.slice A nk c,.slice B nl d,.slice C nr e] 27)=W1 at T ⊢
 generalize w.heap.size=N at T ⊢
 have hb1:=below_drewS W1
 apply zy (C:=λw'=>Below W1.heap.size W1 w') (n:=18) (m:=5) (l1:=[_,_,_,_,_]) (l2:=[_,_]);rfl;rfl;kernel_rfl;rfl;kernel_rfl;exact hb1;exact aR
 iterate 2 ((apply aJ;·(intro w' hC hf;obtain ⟨z0,z1,z2,z3⟩:=aM4 (((T.out.below hC).fact (.head _)).2);clear hf hC;go_wp2_with (fail);apply aO;simp only [zC];exact rfl));(try simp only [zn]))
 apply zF (isNew_kept W1.heap.size (En.int x.1))
 .intro w' hC hf;unfold Gives
  skip
  have HSZ:=aI hC.size
  clear hf hC
  go_wp2_with (go_at_call 17;refine (CI.out _).mono ?_;rintro e w2 ⟨v,rfl,hown,hb⟩;have HO:=aI hown;have HBL:=aI hb;clear hown hb)
  apply zJ rfl HBL.out;simp only [zC];exact HO.out.mono HSZ.out
 intro v6;(try simp only [zn])
 iterate 2 ((apply aJ;·(intro w' hC hf;obtain ⟨z0,z1,z2,z3⟩:=aM4 (((T.out.below hC).fact (.head _)).2);clear hf hC;go_wp2_with (fail);apply aO;simp only [zC];exact rfl));(try simp only [zn]))
 apply wpT_done
 intro w4 hC hall
 obtain ⟨M1,hT,-⟩:=T.out.take hC hall.1
 have HT:=aI hT
 clear hall hC hb1 hT T
 go_upto_region 2 with (go_at_call 38;refine (CLK.out _ _ _ _ HT.out (HT.out.h.fact (.tail _ (.head _)))).mono ?_;rintro e w2 ⟨v,M2,rfl,hT2⟩;have T:=aI hT2;clear hT2)
 obtain ⟨z0,z1,z2,z3⟩:=aM4 ((T.out.h.fact (.head _)).2)
 clear HT
 go_upto_region 3 with (go_at_call 45;refine (CLL.out _ _ _ _ T.out (T.out.h.fact (.tail _ (.tail _ (.head _))))).mono ?_;rintro e w3 ⟨v3,M3,rfl,hT2⟩;have T2:=aI hT2;clear hT2)
 clear z0 z1 z2 z3 T
 have T:=T2
 clear T2
 obtain ⟨z0,z1,z2,z3⟩:=aM4 ((T.out.h.fact (.head _)).2)
 go_wp2_with (go_at_call 47;refine (CLR.out _ _ _ _ T.out (T.out.h.fact (.tail _ (.tail _ (.tail _ (.head _)))))).mono ?_;rintro e w5 ⟨v5,M5,rfl,hT2⟩;have T2:=aI hT2;clear hT2)
 go_ret
 exact ⟨_,rfl,T2.out.own,T2.out.h.bl⟩
theorem rprint_any (x:Sch) (us:List Value) (w:World) (h:Mem.rep [] w x us) (hz:Sx.Sz x) (hzw:Sx.SzW x):Calls Tryz.prog 10 #[.agg us.toArray] w λe w'=>e=.returned (.string ⟨(Sx.print x).toArray⟩)/\Below w.heap.size w w':=by
 obtain ⟨A,c,B,d,C,e,rfl,s1,s2,s3,a1,b1,b2,b3,b4,b5,b6⟩:=rep_sch h
 obtain ⟨nk,hk⟩:=aX ((Sc.kinds x).length)
 obtain ⟨nl,hl⟩:=aX x.2.2.1.length
 obtain ⟨nr,hr⟩:=aX x.2.2.2.length
 rw [hk,hl,hr] at h
 obtain ⟨N,hN⟩:=aX w.heap.size
 obtain ⟨W0,hW0⟩:=aX (w.alloc (.cells #[.int .i64 x.1,.slice A nk c,.slice B nl d,.slice C nr e] 27))
 have hb0:Below w.heap.size w W0:=by rw [<-hW0];exact aP _ _
 have hbk:Blk W0 N 27 #[.int .i64 x.1,.slice A nk c,.slice B nl d,.slice C nr e]:=by rw [<-hW0,<-hN];exact zj w _ _
 have T:=aI (((held0 W0 [] (λ_ h=>by cases h)).add (keeps_rep x _) (Mem.keep h (za hb0))).add (P:=λM W=>N∉M/\Blk W N 27 #[.int .i64 x.1,.slice A nk c,.slice B nl d,.slice C nr e]) (keeps_blk _ _ _) ⟨by simp,hbk⟩)
 have CV:=aI (λ(W:World) (hb:Below W0.heap.size W0 W)=>show Calls Tryz.prog 8 #[.agg #[.int .i64 x.1,.slice A nk c,.slice B nl d,.slice C nr e]] W λe w'=>e=.returned (.int .i64 (Sx.valid x))/\Below W.heap.size W w' from rValid_sch x _ W ((T.out.below hb).fact (.tail _ (.head _))) hz hzw)
 have CS:=aI (λ(W:World) (hok:Sx.okB x=true) (hb:Below W0.heap.size W0 W)=>show Calls Tryz.prog 37 #[.agg #[.int .i64 x.1,.slice A nk c,.slice B nl d,.slice C nr e]] W λe w'=>e=.returned (.string ⟨(Sx.source x).toArray⟩)/\Below W.heap.size W w' from rsource_any x _ W ((T.out.below hb).fact (.tail _ (.head _))) hok)
 have HB:=aI hb0
 have HW0:=aI hW0
 have HN:=aI hN
 have hp:Sx.print x=if Sx.valid x=0 then Sx.source x else []:=rfl
 have HOK:=aI (valid_ok (x:=x))
 obtain ⟨vv,hvv⟩:=aX (Sx.valid x)
 rw [hvv] at CV hp HOK
 show Calls Tryz.prog 10 #[.agg #[.int .i64 x.1,.slice A (Sc.kinds x).length c,.slice B x.2.2.1.length d,.slice C x.2.2.2.length e]] w _
 rw [hk,hl,hr]
 by_cases h0:vv=0
 .rw [if_pos h0] at hp
  replace HOK:=aI (HOK.out h0)
  subst h0
  rw [hp]
  clear h s1 s2 s3 a1 b1 b2 b3 b4 b5 b6 hk hl hr hbk hb0 hW0 hN hz hzw hvv hp
  obtain ⟨z0,z1,z2,z3⟩:=aM4 ((T.out.fact (.head _)).2)
  go_enter Tryz.func10,Tryz.ntmps10
  go_upto_region 1 with fail
  rw [HW0.out,HN.out]
  go_wp2_with (first | (go_at_call 8;(with_reducible refine (CV.out _ T.out.bl).mono ?_);rintro e w2 ⟨rfl,hb2⟩;replace T:=aI (T.out.below hb2);clear hb2 z0 z1 z2 z3;obtain ⟨z0,z1,z2,z3⟩:=aM4 ((T.out.fact (.head _)).2)) | (go_at_call 37;(with_reducible refine (CS.out _ HOK.out T.out.bl).mono ?_);rintro e w2 ⟨rfl,hb2⟩;replace T:=aI (T.out.below hb2);clear hb2 z0 z1 z2 z3))
  go_ret
  exact ⟨rfl,HB.out.trans (T.out.bl.mono HB.out.size)⟩
 .rw [if_neg h0] at hp
  rw [hp]
  have q1:(vv == 0)=false:=by simpa using h0
  have q2:(vv != 0)=true:=by simpa using h0
  clear h s1 s2 s3 a1 b1 b2 b3 b4 b5 b6 hk hl hr hbk hb0 hW0 hN hz hzw hvv hp h0
  obtain ⟨z0,z1,z2,z3⟩:=aM4 ((T.out.fact (.head _)).2)
  go_enter Tryz.func10,Tryz.ntmps10
  go_upto_region 1 with fail
  rw [HW0.out,HN.out]
  go_wp2_with (go_at_call 8;(with_reducible refine (CV.out _ T.out.bl).mono ?_);rintro e w2 ⟨rfl,hb2⟩;replace T:=aI (T.out.below hb2);clear hb2 z0 z1 z2 z3;obtain ⟨z0,z1,z2,z3⟩:=aM4 ((T.out.fact (.head _)).2))
  go_ret
  exact ⟨rfl,HB.out.trans (T.out.bl.mono HB.out.size)⟩
theorem pdig_any (x:Sch) (us:List Value) (w:World) (h:Mem.rep [] w x us) (OB:Sx.WB 2 x) (hk:KEnv w):Calls Tryz.prog 14 #[.agg us.toArray] w λe w'=>e=.returned (.agg (byteVals (Sha.one 9 (Sx.enc x))).toArray)/\Below w.heap.size w w':=by
 have HK:=aI (λ(W:World) (h:Below w.heap.size w W)=>hk.to h)
 have CE:=λ(W:World) (h:Mem.rep [] W x us)=>penc_any x us W h OB
 have hel:=Sx.enc_leW (ag 2) OB
 have hsz:(⟨(Sx.enc x).toArray⟩:ByteArray).size<=1000000:=by show (Sx.enc x).toArray.size<=_;rw [zS];omega
 have CO:=aI (λ(W:World) (g:Nat) (hB:Blk W g 9 #[.string ⟨(Sx.enc x).toArray⟩]) (h2:KEnv W)=>show Calls Tryz.prog 18 #[.int .i64 9,.slice (some ⟨g,0,none⟩) 1 1] W λe w'=>e=.returned (.agg (byteVals (Sha.one 9 (Sx.enc x))).toArray)/\Below W.heap.size W w' from of_any 9 ⟨(Sx.enc x).toArray⟩ (some ⟨g,0,none⟩) 1 W (sl_of_blk hB (flat_str (l:=[⟨(Sx.enc x).toArray⟩]) (by intro s hs;rw [zg] at hs;subst hs;omega)) (show 1<=maxLen by decide)) hsz h2)
 have T0:=(held0 w [] (λ_ h=>by cases h)).add (keeps_rep x us) h
 obtain ⟨A,c,B,d,C,e,rfl,-⟩:=rep_sch h
 have h16:(Tryz.prog.info? 38).map (·.size)=some (byteVals (Sha.one 9 (Sx.enc x))).toArray.size:=by rw [zS,byteVals_length,Sha.one_length];kernel_rfl
 have h116:(byteVals (Sha.one 9 (Sx.enc x))).toArray.all (·.oneCell')=true:=by
  rw [Array.all_eq_true_iff_forall_mem]
  exact λu hu=>byteVals_one _ u (List.mem_toArray.1 hu)
 have hz3:(byteVals (List.replicate 16 0)).toArray.size=(byteVals (Sha.one 9 (Sx.enc x))).toArray.size:=by simp [byteVals_length,Sha.one_length]
 obtain ⟨D,hD⟩:=aX ((byteVals (Sha.one 9 (Sx.enc x))).toArray)
 rw [hD] at CO h16 h116 hz3 ⊢
 obtain ⟨m,hm⟩:=aX (Sx.enc x)
 rw [hm] at CO CE
 unfold BytesP at CE
 obtain ⟨nk,hnk⟩:=aX ((Sc.kinds x).length)
 obtain ⟨nl,hnl⟩:=aX x.2.2.1.length
 obtain ⟨nr,hnr⟩:=aX x.2.2.2.length
 rw [hnk,hnl,hnr] at T0 CE ⊢
 replace CE:=aI CE
 clear hD hm hel hsz h OB hnk hnl hnr
 go_enter Tryz.func14,Tryz.ntmps14
 go_upto_region 1 with fail
 have ez:(#[.int .u8 0,.int .u8 0,.int .u8 0,.int .u8 0,.int .u8 0,.int .u8 0,.int .u8 0,.int .u8 0,.int .u8 0,.int .u8 0,.int .u8 0,.int .u8 0,.int .u8 0,.int .u8 0,.int .u8 0,.int .u8 0]:Array Value)=(byteVals (List.replicate 16 0)).toArray:=by kernel_rfl
 rw [ez]
 have hN1:(w.alloc (.cells #[.int .i64 x.1,.slice A nk c,.slice B nl d,.slice C nr e] 27)).heap.size=w.heap.size+1:=by simp
 have T:=aI (((HR.start T0).new #[.int .i64 x.1,.slice A nk c,.slice B nl d,.slice C nr e] 27 rfl).new (byteVals (List.replicate 16 0)).toArray 38 hN1)
 clear ez hN1 T0
 generalize (w.alloc (.cells #[.int .i64 x.1,.slice A nk c,.slice B nl d,.slice C nr e] 27)).alloc (.cells (byteVals (List.replicate 16 0)).toArray 38)=W1 at T ⊢
 generalize w.heap.size+1=N2 at T ⊢
 generalize w.heap.size=N1 at T ⊢
 obtain ⟨Z,hZ⟩:=aX ((byteVals (List.replicate 16 0)).toArray)
 rw [hZ] at T hz3
 clear hZ
 have q:=T.out.box (.tail _ (.head _));obtain ⟨z0,z1,z2,z3⟩:=aN4 q.cell;simp at z0 z1 z2 z3;clear q
 refine wp_region_lit ?_
 go_wp2_with (first | (go_at_call 12;refine (CE.out _ (Mem.sub (T.out.fact (.head _)) (λg hg=>by cases hg))).mono ?_;rintro e w1 ⟨v,rfl,hown,hb⟩;have hcv:=run_str_own (P:=Tryz.prog) w1 35 9 5 Tryz.underlying35 Tryz.underlying5 Tryz.underlying9 hown;replace T:=aI (T.out.below hb);have HB4:=aI ((zf w1.heap.size w1).alloc (ag _) (.cells #[.string ⟨m.toArray⟩] 9));clear hown hb z0 z1 z2 z3) | (go_at_call 18;refine (CO.out _ _ (zj _ _ _) (HK.out _ (T.out.below HB4.out).h.bl)).mono ?_;rintro e w9 ⟨rfl,hb9⟩;replace T:=aI ((T.out.below HB4.out).below hb9);have HBX:=aI (T.out.box (.head _));clear hb9) | ((with_reducible refine wpList_store_form N2 D 38 Z HBX.out h16 hz3 h116 ?_ ?_ ?_);exact rfl;exact rfl;(try simp only [zn]);have T5:=aI (T.out.setAll D);generalize w9.setRow N2 D=W9 at T5 ⊢))
 exact zi (v:=.agg D) (results_cell_row Tryz.results14 _ _ _ _ _ _ _ rfl (T5.out.box (.head _)) Tryz.underlying38 rfl h16) rfl ⟨rfl,T5.out.h.bl⟩
theorem rdig_any (x:Sch) (us:List Value) (w:World) (h:Mem.rep [] w x us) (OB:Sx.WB 2 x) (hk:RKEnv w):Calls Tryz.prog 15 #[.agg us.toArray] w λe w'=>e=.returned (.agg (byteVals (Sha.one 9 (Sx.enc x))).toArray)/\Below w.heap.size w w':=by
 have HK:=aI (λ(W:World) (h:Below w.heap.size w W)=>hk.to h)
 have CE:=λ(W:World) (h:Mem.rep [] W x us)=>encode_any x us W h OB
 have hel:=Sx.enc_leW (ag 2) OB
 have hsz:(⟨(Sx.enc x).toArray⟩:ByteArray).size<=1000000:=by show (Sx.enc x).toArray.size<=_;rw [zS];omega
 have CO:=aI (λ(W:World) (g:Nat) (hB:Blk W g 9 #[.string ⟨(Sx.enc x).toArray⟩]) (h2:RKEnv W)=>show Calls Tryz.prog 54 #[.int .i64 9,.slice (some ⟨g,0,none⟩) 1 1] W λe w'=>e=.returned (.agg (byteVals (Sha.one 9 (Sx.enc x))).toArray)/\Below W.heap.size W w' from rOf_any 9 ⟨(Sx.enc x).toArray⟩ (some ⟨g,0,none⟩) 1 W (sl_of_blk hB (flat_str (l:=[⟨(Sx.enc x).toArray⟩]) (by intro s hs;rw [zg] at hs;subst hs;omega)) (show 1<=maxLen by decide)) hsz h2)
 have T0:=(held0 w [] (λ_ h=>by cases h)).add (keeps_rep x us) h
 obtain ⟨A,c,B,d,C,e,rfl,-⟩:=rep_sch h
 have h16:(Tryz.prog.info? 38).map (·.size)=some (byteVals (Sha.one 9 (Sx.enc x))).toArray.size:=by rw [zS,byteVals_length,Sha.one_length];kernel_rfl
 have h116:(byteVals (Sha.one 9 (Sx.enc x))).toArray.all (·.oneCell')=true:=by
  rw [Array.all_eq_true_iff_forall_mem]
  exact λu hu=>byteVals_one _ u (List.mem_toArray.1 hu)
 have hz3:(byteVals (List.replicate 16 0)).toArray.size=(byteVals (Sha.one 9 (Sx.enc x))).toArray.size:=by simp [byteVals_length,Sha.one_length]
 obtain ⟨D,hD⟩:=aX ((byteVals (Sha.one 9 (Sx.enc x))).toArray)
 rw [hD] at CO h16 h116 hz3 ⊢
 obtain ⟨m,hm⟩:=aX (Sx.enc x)
 rw [hm] at CO CE
 unfold BytesP at CE
 obtain ⟨nk,hnk⟩:=aX ((Sc.kinds x).length)
 obtain ⟨nl,hnl⟩:=aX x.2.2.1.length
 obtain ⟨nr,hnr⟩:=aX x.2.2.2.length
 rw [hnk,hnl,hnr] at T0 CE ⊢
 replace CE:=aI CE
 clear hD hm hel hsz h OB hnk hnl hnr
 go_enter Tryz.func15,Tryz.ntmps15
 go_upto_region 1 with fail
 have ez:(#[.int .u8 0,.int .u8 0,.int .u8 0,.int .u8 0,.int .u8 0,.int .u8 0,.int .u8 0,.int .u8 0,.int .u8 0,.int .u8 0,.int .u8 0,.int .u8 0,.int .u8 0,.int .u8 0,.int .u8 0,.int .u8 0]:Array Value)=(byteVals (List.replicate 16 0)).toArray:=by kernel_rfl
 rw [ez]
 have hN1:(w.alloc (.cells #[.int .i64 x.1,.slice A nk c,.slice B nl d,.slice C nr e] 27)).heap.size=w.heap.size+1:=by simp
 have T:=aI (((HR.start T0).new #[.int .i64 x.1,.slice A nk c,.slice B nl d,.slice C nr e] 27 rfl).new (byteVals (List.replicate 16 0)).toArray 38 hN1)
 clear ez hN1 T0
 generalize (w.alloc (.cells #[.int .i64 x.1,.slice A nk c,.slice B nl d,.slice C nr e] 27)).alloc (.cells (byteVals (List.replicate 16 0)).toArray 38)=W1 at T ⊢
 generalize w.heap.size+1=N2 at T ⊢
 generalize w.heap.size=N1 at T ⊢
 obtain ⟨Z,hZ⟩:=aX ((byteVals (List.replicate 16 0)).toArray)
 rw [hZ] at T hz3
 clear hZ
 have q:=T.out.box (.tail _ (.head _));obtain ⟨z0,z1,z2,z3⟩:=aN4 q.cell;simp at z0 z1 z2 z3;clear q
 refine wp_region_lit ?_
 go_wp2_with (first | (go_at_call 13;refine (CE.out _ (Mem.sub (T.out.fact (.head _)) (λg hg=>by cases hg))).mono ?_;rintro e w1 ⟨v,rfl,hown,hb⟩;have hcv:=run_str_own (P:=Tryz.prog) w1 35 9 5 Tryz.underlying35 Tryz.underlying5 Tryz.underlying9 hown;replace T:=aI (T.out.below hb);have HB4:=aI ((zf w1.heap.size w1).alloc (ag _) (.cells #[.string ⟨m.toArray⟩] 9));clear hown hb z0 z1 z2 z3) | (go_at_call 54;refine (CO.out _ _ (zj _ _ _) (HK.out _ (T.out.below HB4.out).h.bl)).mono ?_;rintro e w9 ⟨rfl,hb9⟩;replace T:=aI ((T.out.below HB4.out).below hb9);have HBX:=aI (T.out.box (.head _));clear hb9) | ((with_reducible refine wpList_store_form N2 D 38 Z HBX.out h16 hz3 h116 ?_ ?_ ?_);exact rfl;exact rfl;(try simp only [zn]);have T5:=aI (T.out.setAll D);generalize w9.setRow N2 D=W9 at T5 ⊢))
 exact zi (v:=.agg D) (results_cell_row Tryz.results15 _ _ _ _ _ _ _ rfl (T5.out.box (.head _)) Tryz.underlying38 rfl h16) rfl ⟨rfl,T5.out.h.bl⟩
end
end Go.Proofs.YtobcnhmhgoccnaaGreatDoor
