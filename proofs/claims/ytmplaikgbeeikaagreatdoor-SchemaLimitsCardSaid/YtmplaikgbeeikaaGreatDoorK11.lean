/- Parts of the proof, joined: SxF9, SxP8, SxSc, SxL6. -/
import Derived.Test.YtmplaikgbeeikaaGreatDoorK3
import Derived.Test.YtmplaikgbeeikaaGreatDoorK6
import Derived.Test.YtmplaikgbeeikaaGreatDoorK7
import Derived.Test.YtmplaikgbeeikaaGreatDoorK8
import Derived.Test.YtmplaikgbeeikaaGreatDoorK9
import Derived.Test.YtmplaikgbeeikaaGreatDoorK10
import Derived.Deep.LoopGhost
set_option linter.unusedVariables false
set_option linter.unusedSimpArgs false
set_option linter.unusedSectionVars false
namespace Go.Proofs.YtmplaikgbeeikaaGreatDoor
open Go Go.RowKit
section
variable {w:World} {g:Nat} {st:Sx.St} {M:List Nat} {bx:List Box} {rs:List Rw} {L:List (List Nat→World→Prop)} {W:World}
theorem field_any {t:Sx.Tok} {l:List Sx.Tok} (he:SEnv w) (hw:Sx.isWord t.1=true) (h:PH (pkP w g) (t::l,false) M bx rs L W):Calls Tryz.prog 83 #[.pointer (some ⟨g,0,none⟩)] W (RdA (pkP w g) Sx.field (t::l,false) bx rs L):=by
 unfold Sx.isWord at hw
 cases hk:Sx.wordOf t.1 with
 | none=>rw [hk] at hw;cases hw
 | some k =>
  have h9:=Sx.wordOf_lt hk
  match k,h9 with
  | 0,_=>exact field0_any he hk h
  | 1,_=>exact field1_any he hk h
  | 2,_=>exact field2_any he hk h
  | 3,_=>exact field3_any he hk h
  | 4,_=>exact field4_any he hk h
  | 5,_=>exact field5_any he hk h
  | 6,_=>exact field6_any he hk h
  | 7,_=>exact field7_any he hk h
  | 8,_=>exact field8_any he hk h
theorem isWord_nil:Sx.isWord []=false:=by decide
set_option maxRecDepth 100000 in
set_option maxHeartbeats 8000000 in
theorem someF_any (he:SEnv w) (h:PH (pkP w g) st M bx rs L W) :
  Calls Tryz.prog 80 #[.pointer (some ⟨g,0,none⟩),.func (.func 81) #[] #[],.func (.func 83) #[.pointer (some ⟨g,0,none⟩)] #[]] W (RdL (pkP w g) (fun l=>Sx.many Sx.isWord Sx.field l.length [] l) st bx rs L):=by
 have T:=aI ((h.push 52 8).add (keeps_flat ([]:List (Fld)) []) rfl)
 have HE:=aI he
 have HTK:=aI (ph_tok h).1
 have HE9:=aI (fun (st:Sx.St) {M:List Nat} {bx:List Box} {rs:List Rw} {L:List (List Nat→World→Prop)} (W:World) (h:PH (pkP w g) st M bx rs L W)=>ph_env he h)
 clear h he
 obtain ⟨sx,hsx⟩:∃ s,Sx.left st=s:=⟨_,rfl⟩
 have HSX:=aI hsx
 go_enter Tryz.func80,Tryz.ntmps80
 go_wp2_with fail
 go_loopg [7] sx (fun r v7 wr=>∃ (st1:Sx.St) (acc:List (Fld)) (xs:List Value) (M1:List Nat),PH (pkP w g) st1 M1 bx (⟨52,8,v7,acc.length,xs⟩::rs) ((fun M W=>Flat M W acc xs)::L) wr∧Sx.left st1=r∧acc.length+r≤sx∧(∀ x st',Sx.Nx (Sx.many Sx.isWord Sx.field st1.1.length acc) st1 x st'→Sx.Nx (fun l=>Sx.many Sx.isWord Sx.field l.length [] l) st x st'))
 case atStart=>exact ⟨st,[],[],_,T.out,HSX.out,by simp,fun x st' hx=>hx⟩
 case round =>
  obtain ⟨st1,acc,xs,M1,hH,hlf,hal,hnx⟩:=hrel
  obtain ⟨wo,rfl⟩:∃ wo:World,wo=wr:=⟨_,rfl⟩
  replace T:=aI hH
  have HX:=aI hnx
  have HL:=aI hlf
  clear hH hnx hlf
  obtain ⟨l,f⟩:=st1
  obtain ⟨A7,c7,rfl⟩:=T.out.form
  obtain ⟨cs9,hb9,A9,c9,rfl,_⟩:=T.out.pbox
  have z1:=hb9.cell 1
  simp at z1
  clear hb9
  have HA8:=aI (show acc.length≤8193 by have h1:=HTK.out;have h2:=HSX.out;unfold Sx.left at h2;split at h2 <;> omega)
  cases f
  ·obtain ⟨bb,hbb⟩:∃ b,Sx.isWord (Sx.pk (l,false))=b:=⟨_,rfl⟩
   cases bb
   ·have HST:=aI (Sx.nx_many_stop (begins:=Sx.isWord) (read:=Sx.field) (st:=(l,false)) (f:=l.length) (acc:=acc) (fun _ t r hl=>by obtain rfl:l=t::r:=hl;exact hbb))
    have hb8:Sx.isWord (Sx.pk (l,false))=false:=hbb
    clear hbb
    go_wp2_with (first | (go_at_call 75;((with_reducible refine (peek_any T.out).mono ?_));rintro e w1 ⟨rfl,rfl⟩) | (go_at_call 81;((with_reducible refine (kind1_any _ _ (HE9.out _ _ T.out)).mono ?_));rintro e w1 ⟨rfl,rfl⟩))
    go_ret
    obtain ⟨A,c,M',hv,hc1,hc2,h4,_⟩:=T.out.freeze (α:=_) rfl rfl (T.out.fact (.head _))
    injection hv with hv1 hv2 hv3
    subst hv1 hv3
    exact ⟨acc,_,_,_,M',rfl,hc1,hc2,HA8.out,HX.out _ _ HST.out,h4.less fun P hP=>by
     rcases aL hP with rfl | hP
     ·exact .head _
     ·exact .tail _ (.tail _ hP)⟩
   ·obtain ⟨t,r,rfl⟩:∃ t r,l=t::r:=by
     cases l with
     | nil=>exact absurd (hbb.symm.trans isWord_nil) (by simp)
     | cons t r=>exact ⟨t,r,rfl⟩
    have HBB:=aI (show Sx.isWord t.1=true from hbb)
    have hb8:Sx.isWord (Sx.pk (t::r,false))=true:=hbb
    clear hbb
    go_wp2_with (first | (go_at_call 75;((with_reducible refine (peek_any T.out).mono ?_));rintro e w1 ⟨rfl,rfl⟩) | (go_at_call 81;((with_reducible refine (kind1_any _ _ (HE9.out _ _ T.out)).mono ?_));rintro e w1 ⟨rfl,rfl⟩) | (go_at_call 83;((with_reducible refine (field_any HE.out HBB.out T.out).mono ?_));rintro e w3 ⟨a,us,st3,M3,rfl,x3,h3⟩;obtain ⟨A1,c1,B1,d1,rfl,r1,r2,r3,r4,r5,r6,r7,r8,r9,r10,r11,r12⟩:=rep_fld (h3.fact (.head _));replace T:=aI h3;have X3:=aI x3;clear h3 x3) | (at_builtin;obtain ⟨i0,hI,hz0,hz1,hz2⟩:=info_parts infoFld;refine wpList_append_ph (by rfl) _ _ 47 (by rfl) 52 i0 _ 8 120 Tryz.underlying47 hI hz0 hz1 hz2 rfl (by decide) (T.out.below ((Below.refl _ _).alloc (Nat.le_refl _) _)) (by rfl) _ _ 1 1 [.string (Sc.nm a),.string (Sc.of_ a),.string (Sc.up a),.int .i64 (Sc.kd a),.int .i64 (Sc.lo a),.int .i64 (Sc.hi a),.slice A1 (Sc.words a).length c1,.slice B1 (Sc.wts a).length d1] (by rfl) (reads_blk (Blk.new _ _ _) rfl) (by simp [Value.oneCell']) (by have:=HA8.out;unfold maxLen;omega) (by have:=HA8.out;omega) ?_;intro v7 w7 M7 h7 _;replace T:=aI h7;clear h7 hI hz0 hz1 hz2))
    have hlt:=Sx.left_eats Sx.eats_field X3.out
    have HFL:=aI ((T.out.fswap.flat (Flat.single (T.out.fact (.head _)))).less (L':=_::_) fun P hP=>by
     rcases aL hP with rfl | hP
     ·exact .head _
     ·exact .tail _ (.tail _ hP))
    rw [HL.out] at hlt
    go_roundg (Sx.left st3)
    case measure=>exact hlt
    case rel=>exact ⟨st3,acc++[a],_,_,by rw [aK];exact HFL.out,rfl,by rw [aK,List.length_singleton];omega,fun x st' hx=>HX.out _ _ (Sx.nx_many_step Sx.eats_field HBB.out X3.out hx)⟩
  ·have HST:=aI (Sx.nx_many_stop (begins:=Sx.isWord) (read:=Sx.field) (st:=(l,true)) (f:=l.length) (acc:=acc) (fun h=>by cases h))
   go_wp2_with fail
   go_ret
   obtain ⟨A,c,M',hv,hc1,hc2,h4,_⟩:=T.out.freeze (α:=_) rfl rfl (T.out.fact (.head _))
   injection hv with hv1 hv2 hv3
   subst hv1 hv3
   exact ⟨acc,_,_,_,M',rfl,hc1,hc2,HA8.out,HX.out _ _ HST.out,h4.less fun P hP=>by
    rcases aL hP with rfl | hP
    ·exact .head _
    ·exact .tail _ (.tail _ hP)⟩
set_option maxRecDepth 100000 in
set_option maxHeartbeats 8000000 in
theorem someL_any (he:SEnv w) {N:Nat} {wd:Sx.Txt} (hwd:wd≠[]) (hN:IsB N wd∈L) (h:PH (pkP w g) st M bx rs L W) :
  Calls Tryz.prog 37 #[.pointer (some ⟨g,0,none⟩),.func (.func 78) #[] #[.pointer (some ⟨N,0,none⟩)],.func (.func 38) #[.pointer (some ⟨g,0,none⟩)] #[]] W (RdL (pkP w g) (fun l=>Sx.many (fun t=>t == wd) Sx.life l.length [] l) st bx rs L):=by
 have T:=aI ((h.push 55 3).add (keeps_flat ([]:List (Lif)) []) rfl)
 have HE:=aI he
 have HTK:=aI (ph_tok h).1
 have HN:=aI hN
 clear hN
 clear h he
 obtain ⟨sx,hsx⟩:∃ s,Sx.left st=s:=⟨_,rfl⟩
 have HSX:=aI hsx
 go_enter Tryz.func37,Tryz.ntmps37
 go_wp2_with fail
 go_loopg [7] sx (fun r v7 wr=>∃ (st1:Sx.St) (acc:List (Lif)) (xs:List Value) (M1:List Nat),PH (pkP w g) st1 M1 bx (⟨55,3,v7,acc.length,xs⟩::rs) ((fun M W=>Flat M W acc xs)::L) wr∧Sx.left st1=r∧acc.length+r≤sx∧(∀ x st',Sx.Nx (Sx.many (fun t=>t == wd) Sx.life st1.1.length acc) st1 x st'→Sx.Nx (fun l=>Sx.many (fun t=>t == wd) Sx.life l.length [] l) st x st'))
 case atStart=>exact ⟨st,[],[],_,T.out,HSX.out,by simp,fun x st' hx=>hx⟩
 case round =>
  obtain ⟨st1,acc,xs,M1,hH,hlf,hal,hnx⟩:=hrel
  obtain ⟨wo,rfl⟩:∃ wo:World,wo=wr:=⟨_,rfl⟩
  replace T:=aI hH
  have HX:=aI hnx
  have HL:=aI hlf
  clear hH hnx hlf
  obtain ⟨l,f⟩:=st1
  obtain ⟨A7,c7,rfl⟩:=T.out.form
  obtain ⟨cs9,hb9,A9,c9,rfl,_⟩:=T.out.pbox
  have z1:=hb9.cell 1
  simp at z1
  clear hb9
  have cN:=isb_cell (T.out.fact (.tail _ HN.out))
  have HA8:=aI (show acc.length≤8193 by have h1:=HTK.out;have h2:=HSX.out;unfold Sx.left at h2;split at h2 <;> omega)
  cases f
  ·obtain ⟨bb,hbb⟩:∃ b,(fun t=>t == wd) (Sx.pk (l,false))=b:=⟨_,rfl⟩
   cases bb
   ·have HST:=aI (Sx.nx_many_stop (begins:=(fun t=>t == wd)) (read:=Sx.life) (st:=(l,false)) (f:=l.length) (acc:=acc) (fun _ t r hl=>by obtain rfl:l=t::r:=hl;exact hbb))
    have hb8:(Sx.pk (l,false) == wd)=false:=hbb
    clear hbb
    go_wp2_with (first | (go_at_call 75;((with_reducible refine (peek_any T.out).mono ?_));rintro e w1 ⟨rfl,rfl⟩) | (go_at_call 78;((with_reducible refine (is1_any _ wd N _ cN).mono ?_));rintro e w1 ⟨rfl,rfl⟩))
    go_ret
    obtain ⟨A,c,M',hv,hc1,hc2,h4,_⟩:=T.out.freeze (α:=_) rfl rfl (T.out.fact (.head _))
    injection hv with hv1 hv2 hv3
    subst hv1 hv3
    exact ⟨acc,_,_,_,M',rfl,hc1,hc2,HA8.out,HX.out _ _ HST.out,h4.less fun P hP=>by
     rcases aL hP with rfl | hP
     ·exact .head _
     ·exact .tail _ (.tail _ hP)⟩
   ·obtain ⟨t,r,rfl⟩:∃ t r,l=t::r:=by
     cases l with
     | nil=>exact absurd (hbb.symm.trans (show (([]:Sx.Txt) == wd)=false by cases wd with | nil=>exact absurd rfl hwd | cons _ _=>rfl)) (by simp)
     | cons t r=>exact ⟨t,r,rfl⟩
    have HBB:=aI (show (fun t=>t == wd) t.1=true from hbb)
    have hb8:(Sx.pk (t::r,false) == wd)=true:=hbb
    clear hbb
    go_wp2_with (first | (go_at_call 75;((with_reducible refine (peek_any T.out).mono ?_));rintro e w1 ⟨rfl,rfl⟩) | (go_at_call 78;((with_reducible refine (is1_any _ wd N _ cN).mono ?_));rintro e w1 ⟨rfl,rfl⟩) | (go_at_call 38;((with_reducible refine (life_any HE.out T.out).mono ?_));rintro e w3 ⟨a,us,st3,M3,rfl,x3,h3⟩;obtain ⟨A1,c1,B1,d1,rfl,r1,r2,r3,r4,r5,r6,r7⟩:=rep_lif (h3.fact (.head _));replace T:=aI h3;have X3:=aI x3;clear h3 x3) | (at_builtin;obtain ⟨i0,hI,hz0,hz1,hz2⟩:=info_parts infoLif;refine wpList_append_ph (by rfl) _ _ 25 (by rfl) 55 i0 _ 3 64 Tryz.underlying25 hI hz0 hz1 hz2 rfl (by decide) (T.out.below ((Below.refl _ _).alloc (Nat.le_refl _) _)) (by rfl) _ _ 1 1 [.string a.1,.slice A1 a.2.1.length c1,.slice B1 a.2.2.length d1] (by rfl) (reads_blk (Blk.new _ _ _) rfl) (by simp [Value.oneCell']) (by have:=HA8.out;unfold maxLen;omega) (by have:=HA8.out;omega) ?_;intro v7 w7 M7 h7 _;replace T:=aI h7;clear h7 hI hz0 hz1 hz2))
    have hlt:=Sx.left_eats Sx.eats_life X3.out
    have HFL:=aI ((T.out.fswap.flat (Flat.single (T.out.fact (.head _)))).less (L':=_::_) fun P hP=>by
     rcases aL hP with rfl | hP
     ·exact .head _
     ·exact .tail _ (.tail _ hP))
    rw [HL.out] at hlt
    go_roundg (Sx.left st3)
    case measure=>exact hlt
    case rel=>exact ⟨st3,acc++[a],_,_,by rw [aK];exact HFL.out,rfl,by rw [aK,List.length_singleton];omega,fun x st' hx=>HX.out _ _ (Sx.nx_many_step Sx.eats_life HBB.out X3.out hx)⟩
  ·have HST:=aI (Sx.nx_many_stop (begins:=(fun t=>t == wd)) (read:=Sx.life) (st:=(l,true)) (f:=l.length) (acc:=acc) (fun h=>by cases h))
   go_wp2_with fail
   go_ret
   obtain ⟨A,c,M',hv,hc1,hc2,h4,_⟩:=T.out.freeze (α:=_) rfl rfl (T.out.fact (.head _))
   injection hv with hv1 hv2 hv3
   subst hv1 hv3
   exact ⟨acc,_,_,_,M',rfl,hc1,hc2,HA8.out,HX.out _ _ HST.out,h4.less fun P hP=>by
    rcases aL hP with rfl | hP
    ·exact .head _
    ·exact .tail _ (.tail _ hP)⟩
set_option maxRecDepth 100000 in
set_option maxHeartbeats 8000000 in
theorem someR_any (he:SEnv w) {N:Nat} {wd:Sx.Txt} (hwd:wd≠[]) (hN:IsB N wd∈L) (h:PH (pkP w g) st M bx rs L W) :
  Calls Tryz.prog 39 #[.pointer (some ⟨g,0,none⟩),.func (.func 78) #[] #[.pointer (some ⟨N,0,none⟩)],.func (.func 40) #[.pointer (some ⟨g,0,none⟩)] #[]] W (RdL (pkP w g) (fun l=>Sx.many (fun t=>t == wd) Sx.rule l.length [] l) st bx rs L):=by
 have T:=aI ((h.push 58 5).add (keeps_flat ([]:List (Rul)) []) rfl)
 have HE:=aI he
 have HTK:=aI (ph_tok h).1
 have HN:=aI hN
 clear hN
 clear h he
 obtain ⟨sx,hsx⟩:∃ s,Sx.left st=s:=⟨_,rfl⟩
 have HSX:=aI hsx
 go_enter Tryz.func39,Tryz.ntmps39
 go_wp2_with fail
 go_loopg [7] sx (fun r v7 wr=>∃ (st1:Sx.St) (acc:List (Rul)) (xs:List Value) (M1:List Nat),PH (pkP w g) st1 M1 bx (⟨58,5,v7,acc.length,xs⟩::rs) ((fun M W=>Flat M W acc xs)::L) wr∧Sx.left st1=r∧acc.length+r≤sx∧(∀ x st',Sx.Nx (Sx.many (fun t=>t == wd) Sx.rule st1.1.length acc) st1 x st'→Sx.Nx (fun l=>Sx.many (fun t=>t == wd) Sx.rule l.length [] l) st x st'))
 case atStart=>exact ⟨st,[],[],_,T.out,HSX.out,by simp,fun x st' hx=>hx⟩
 case round =>
  obtain ⟨st1,acc,xs,M1,hH,hlf,hal,hnx⟩:=hrel
  obtain ⟨wo,rfl⟩:∃ wo:World,wo=wr:=⟨_,rfl⟩
  replace T:=aI hH
  have HX:=aI hnx
  have HL:=aI hlf
  clear hH hnx hlf
  obtain ⟨l,f⟩:=st1
  obtain ⟨A7,c7,rfl⟩:=T.out.form
  obtain ⟨cs9,hb9,A9,c9,rfl,_⟩:=T.out.pbox
  have z1:=hb9.cell 1
  simp at z1
  clear hb9
  have cN:=isb_cell (T.out.fact (.tail _ HN.out))
  have HA8:=aI (show acc.length≤8193 by have h1:=HTK.out;have h2:=HSX.out;unfold Sx.left at h2;split at h2 <;> omega)
  cases f
  ·obtain ⟨bb,hbb⟩:∃ b,(fun t=>t == wd) (Sx.pk (l,false))=b:=⟨_,rfl⟩
   cases bb
   ·have HST:=aI (Sx.nx_many_stop (begins:=(fun t=>t == wd)) (read:=Sx.rule) (st:=(l,false)) (f:=l.length) (acc:=acc) (fun _ t r hl=>by obtain rfl:l=t::r:=hl;exact hbb))
    have hb8:(Sx.pk (l,false) == wd)=false:=hbb
    clear hbb
    go_wp2_with (first | (go_at_call 75;((with_reducible refine (peek_any T.out).mono ?_));rintro e w1 ⟨rfl,rfl⟩) | (go_at_call 78;((with_reducible refine (is1_any _ wd N _ cN).mono ?_));rintro e w1 ⟨rfl,rfl⟩))
    go_ret
    obtain ⟨A,c,M',hv,hc1,hc2,h4,_⟩:=T.out.freeze (α:=_) rfl rfl (T.out.fact (.head _))
    injection hv with hv1 hv2 hv3
    subst hv1 hv3
    exact ⟨acc,_,_,_,M',rfl,hc1,hc2,HA8.out,HX.out _ _ HST.out,h4.less fun P hP=>by
     rcases aL hP with rfl | hP
     ·exact .head _
     ·exact .tail _ (.tail _ hP)⟩
   ·obtain ⟨t,r,rfl⟩:∃ t r,l=t::r:=by
     cases l with
     | nil=>exact absurd (hbb.symm.trans (show (([]:Sx.Txt) == wd)=false by cases wd with | nil=>exact absurd rfl hwd | cons _ _=>rfl)) (by simp)
     | cons t r=>exact ⟨t,r,rfl⟩
    have HBB:=aI (show (fun t=>t == wd) t.1=true from hbb)
    have hb8:(Sx.pk (t::r,false) == wd)=true:=hbb
    clear hbb
    go_wp2_with (first | (go_at_call 75;((with_reducible refine (peek_any T.out).mono ?_));rintro e w1 ⟨rfl,rfl⟩) | (go_at_call 78;((with_reducible refine (is1_any _ wd N _ cN).mono ?_));rintro e w1 ⟨rfl,rfl⟩) | (go_at_call 40;((with_reducible refine (rule_any HE.out T.out).mono ?_));rintro e w3 ⟨a,us,st3,M3,rfl,x3,h3⟩;obtain ⟨rfl,r1,r2,r3,r4,r5⟩:=rep_rul (h3.fact (.head _));replace T:=aI h3;have X3:=aI x3;clear h3 x3) | (at_builtin;obtain ⟨i0,hI,hz0,hz1,hz2⟩:=info_parts infoRul;refine wpList_append_ph (by rfl) _ _ 26 (by rfl) 58 i0 _ 5 72 Tryz.underlying26 hI hz0 hz1 hz2 rfl (by decide) (T.out.below ((Below.refl _ _).alloc (Nat.le_refl _) _)) (by rfl) _ _ 1 1 [.string a.1,.string a.2.1,.string a.2.2.1,.string a.2.2.2.1,.int .i64 a.2.2.2.2] (by rfl) (reads_blk (Blk.new _ _ _) rfl) (by simp [Value.oneCell']) (by have:=HA8.out;unfold maxLen;omega) (by have:=HA8.out;omega) ?_;intro v7 w7 M7 h7 _;replace T:=aI h7;clear h7 hI hz0 hz1 hz2))
    have hlt:=Sx.left_eats Sx.eats_rule X3.out
    have HFL:=aI ((T.out.fswap.flat (Flat.single (T.out.fact (.head _)))).less (L':=_::_) fun P hP=>by
     rcases aL hP with rfl | hP
     ·exact .head _
     ·exact .tail _ (.tail _ hP))
    rw [HL.out] at hlt
    go_roundg (Sx.left st3)
    case measure=>exact hlt
    case rel=>exact ⟨st3,acc++[a],_,_,by rw [aK];exact HFL.out,rfl,by rw [aK,List.length_singleton];omega,fun x st' hx=>HX.out _ _ (Sx.nx_many_step Sx.eats_rule HBB.out X3.out hx)⟩
  ·have HST:=aI (Sx.nx_many_stop (begins:=(fun t=>t == wd)) (read:=Sx.rule) (st:=(l,true)) (f:=l.length) (acc:=acc) (fun h=>by cases h))
   go_wp2_with fail
   go_ret
   obtain ⟨A,c,M',hv,hc1,hc2,h4,_⟩:=T.out.freeze (α:=_) rfl rfl (T.out.fact (.head _))
   injection hv with hv1 hv2 hv3
   subst hv1 hv3
   exact ⟨acc,_,_,_,M',rfl,hc1,hc2,HA8.out,HX.out _ _ HST.out,h4.less fun P hP=>by
    rcases aL hP with rfl | hP
    ·exact .head _
    ·exact .tail _ (.tail _ hP)⟩
end
end Go.Proofs.YtmplaikgbeeikaaGreatDoor
namespace Go.Proofs.YtmplaikgbeeikaaGreatDoor
open Go Go.RowKit
section
variable {w:World} {g:Nat} {st:Sx.St} {M:List Nat} {bx:List Box} {rs:List Rw} {L:List (List Nat→World→Prop)} {W:World}
set_option maxRecDepth 100000 in
set_option maxHeartbeats 8000000 in
theorem kind_any (he:SEnv w) (h:PH (pkP w g) st M bx rs L W):Calls Tryz.prog 36 #[.pointer (some ⟨g,0,none⟩)] W (RdA (pkP w g) Sx.kind st bx rs L):=by
 obtain ⟨N,hN⟩:∃ n,W.heap.size=n:=⟨_,rfl⟩
 have T:=aI (h.new #[.string ⟨#[]⟩,.int .i64 0,.int .i64 0,.slice none 0 0] 49 hN)
 have HE:=aI he
 clear h he
 go_enter Tryz.func36,Tryz.ntmps36
 go_upto_region 3 with (first | (go_at_call 32;((with_reducible refine (needKind_any T.out).mono ?_));rintro e w1 ⟨st1,rfl,x1,h1⟩;replace T:=aI h1;have X1:=aI x1;clear h1 x1) | (go_at_call 79;((with_reducible refine (nameR_any T.out).mono ?_));rintro e w1 ⟨n,st2,rfl,i2,x2,h2⟩;replace T:=aI h2;have X2:=aI x2;have I2:=aI i2;clear h2 x2 i2))
 obtain ⟨N1,hN1⟩:∃ n,w1.heap.size=n:=⟨_,rfl⟩
 replace T:=aI (T.out.new #[.string (Sx.ofT n),.int .i64 0,.int .i64 0,.slice none 0 0] 49 hN1)
 rw [hN1]
 go_upto_region 6 with (first | (go_at_call 33;((with_reducible refine (num_any' HE.out T.out).mono ?_));rintro e w3 ⟨n3,st3,rfl,i3,x3,h3⟩;replace T:=aI h3;have X3:=aI x3;have I3:=aI i3;clear h3 x3 i3;have B:=T.out.box (.head _);have z0:=B.cell 0;have z1:=B.cell 1;have z2:=B.cell 2;have z3:=B.cell 3;have f0:=B.frozen 0;have f1:=B.frozen 1;have f2:=B.frozen 2;have f3:=B.frozen 3;simp at z0 z1 z2 z3;dsimp only at f0 f1 f2 f3;clear B) | (go_at_call 33;((with_reducible refine (num_any' HE.out (T.out.set0 1 _)).mono ?_));rintro e w4 ⟨n4,st4,rfl,i4,x4,h4⟩;replace T:=aI h4;have X4:=aI x4;have I4:=aI i4;clear h4 x4 i4;clear z0 z1 z2 z3 f0 f1 f2 f3;have B:=T.out.box (.head _);have z0:=B.cell 0;have z1:=B.cell 1;have z2:=B.cell 2;have z3:=B.cell 3;have f0:=B.frozen 0;have f1:=B.frozen 1;have f2:=B.frozen 2;have f3:=B.frozen 3;simp at z0 z1 z2 z3;dsimp only at f0 f1 f2 f3;clear B) | (go_at_call 80;((with_reducible refine (someF_any HE.out (T.out.set0 2 _)).mono ?_));rintro e w5 ⟨fs,A5,c5,st5,M5,rfl,d1,d2,d3,x5,h5⟩;replace T:=aI h5;have X5:=aI x5;have D:=aI (show fs.length≤c5∧c5≤9223372036854775807 from ⟨d1,d2⟩);clear h5 x5 d1 d2 d3;clear z0 z1 z2 z3 f0 f1 f2 f3;have B:=T.out.box (.head _);have z0:=B.cell 0;have z1:=B.cell 1;have z2:=B.cell 2;have z3:=B.cell 3;have f0:=B.frozen 0;have f1:=B.frozen 1;have f2:=B.frozen 2;have f3:=B.frozen 3;simp at z0 z1 z2 z3;dsimp only at f0 f1 f2 f3;clear B))
 have T7:=aI (show PH (pkP w g) st5 M5 ((N1,49,#[.string (Sx.ofT n),.int .i64 n3,.int .i64 n4,.slice A5 fs.length c5])::(N,49,#[.string ⟨#[]⟩,.int .i64 0,.int .i64 0,.slice none 0 0])::bx) rs _ _ from T.out.set0 3 (.slice A5 fs.length c5))
 clear T z0 z1 z2 z3 f0 f1 f2 f3
 generalize w5.setCell ⟨N1,3,none⟩ (.slice A5 fs.length c5)=W8 at *
 have B:=T7.out.box (.head _);have z0:=B.cell 0;have z1:=B.cell 1;have z2:=B.cell 2;have z3:=B.cell 3
 have C:=T7.out.box (.tail _ (.head _));have y0:=C.cell 0;have y1:=C.cell 1;have y2:=C.cell 2;have y3:=C.cell 3;have f0:=C.frozen 0;have f1:=C.frozen 1;have f2:=C.frozen 2;have f3:=C.frozen 3
 simp at z0 z1 z2 z3 y0 y1 y2 y3
 dsimp only at f0 f1 f2 f3
 clear B C
 have T8:=aI (show PH (pkP w g) st5 M5 ((N,49,#[.string (Sx.ofT n),.int .i64 n3,.int .i64 n4,.slice A5 fs.length c5])::(N1,49,#[.string (Sx.ofT n),.int .i64 n3,.int .i64 n4,.slice A5 fs.length c5])::bx) rs _ _ from (((T7.out.bswap.set0 0 (.string (Sx.ofT n))).set0 1 (.int .i64 n3)).set0 2 (.int .i64 n4)).set0 3 (.slice A5 fs.length c5))
 go_wp2_with fail
 clear y0 y1 y2 y3
 have C:=T8.out.box (.head _);have y0:=C.cell 0;have y1:=C.cell 1;have y2:=C.cell 2;have y3:=C.cell 3
 simp at y0 y1 y2 y3
 have hfs:=T8.out.fact (.head _)
 refine bodyPost_ret (v:=.agg #[.string (Sx.ofT n),.int .i64 n3,.int .i64 n4,.slice A5 fs.length c5]) ?_ rfl ?_
 ·simp [results,Tryz.results36,go_sem,y0,y1,y2,y3]
 ·exact ⟨(Sx.ofT n,n3,n4,fs),_,st5,_,rfl,Sx.nx_bind X1.out (Sx.nx_bind X2.out (Sx.nx_bind X3.out (Sx.nx_bind X4.out (Sx.nx_bind X5.out (Sx.nx_ret _ _))))),(T8.out.unbox.unbox.add (keeps_rep (Sx.ofT n,n3,n4,fs) _) ⟨[_],_,rfl,⟨rfl,Nat.le_trans I2.out (by decide)⟩,[_],_,rfl,⟨rfl,I3.out⟩,[_],_,rfl,⟨rfl,I4.out⟩,⟨_,_,rfl,D.out.1,D.out.2,hfs⟩⟩).less fun P hP=>by
   rcases aL hP with rfl | hP
   ·exact .head _
   ·exact .tail _ (.tail _ hP)⟩
set_option maxRecDepth 100000 in
set_option maxHeartbeats 8000000 in
theorem someK_any (he:SEnv w) {N:Nat} {wd:Sx.Txt} (hwd:wd≠[]) (hN:IsB N wd∈L) (h:PH (pkP w g) st M bx rs L W) :
  Calls Tryz.prog 34 #[.pointer (some ⟨g,0,none⟩),.func (.func 78) #[] #[.pointer (some ⟨N,0,none⟩)],.func (.func 36) #[.pointer (some ⟨g,0,none⟩)] #[]] W (RdL (pkP w g) (fun l=>Sx.many (fun t=>t == wd) Sx.kind l.length [] l) st bx rs L):=by
 have T:=aI ((h.push 49 4).add (keeps_flat ([]:List (Knd)) []) rfl)
 have HE:=aI he
 have HTK:=aI (ph_tok h).1
 have HN:=aI hN
 clear hN
 clear h he
 obtain ⟨sx,hsx⟩:∃ s,Sx.left st=s:=⟨_,rfl⟩
 have HSX:=aI hsx
 go_enter Tryz.func34,Tryz.ntmps34
 go_wp2_with fail
 go_loopg [7] sx (fun r v7 wr=>∃ (st1:Sx.St) (acc:List (Knd)) (xs:List Value) (M1:List Nat),PH (pkP w g) st1 M1 bx (⟨49,4,v7,acc.length,xs⟩::rs) ((fun M W=>Flat M W acc xs)::L) wr∧Sx.left st1=r∧acc.length+r≤sx∧(∀ x st',Sx.Nx (Sx.many (fun t=>t == wd) Sx.kind st1.1.length acc) st1 x st'→Sx.Nx (fun l=>Sx.many (fun t=>t == wd) Sx.kind l.length [] l) st x st'))
 case atStart=>exact ⟨st,[],[],_,T.out,HSX.out,by simp,fun x st' hx=>hx⟩
 case round =>
  obtain ⟨st1,acc,xs,M1,hH,hlf,hal,hnx⟩:=hrel
  obtain ⟨wo,rfl⟩:∃ wo:World,wo=wr:=⟨_,rfl⟩
  replace T:=aI hH
  have HX:=aI hnx
  have HL:=aI hlf
  clear hH hnx hlf
  obtain ⟨l,f⟩:=st1
  obtain ⟨A7,c7,rfl⟩:=T.out.form
  obtain ⟨cs9,hb9,A9,c9,rfl,_⟩:=T.out.pbox
  have z1:=hb9.cell 1
  simp at z1
  clear hb9
  have cN:=isb_cell (T.out.fact (.tail _ HN.out))
  have HA8:=aI (show acc.length≤8193 by have h1:=HTK.out;have h2:=HSX.out;unfold Sx.left at h2;split at h2 <;> omega)
  cases f
  ·obtain ⟨bb,hbb⟩:∃ b,(fun t=>t == wd) (Sx.pk (l,false))=b:=⟨_,rfl⟩
   cases bb
   ·have HST:=aI (Sx.nx_many_stop (begins:=(fun t=>t == wd)) (read:=Sx.kind) (st:=(l,false)) (f:=l.length) (acc:=acc) (fun _ t r hl=>by obtain rfl:l=t::r:=hl;exact hbb))
    have hb8:(Sx.pk (l,false) == wd)=false:=hbb
    clear hbb
    go_wp2_with (first | (go_at_call 75;((with_reducible refine (peek_any T.out).mono ?_));rintro e w1 ⟨rfl,rfl⟩) | (go_at_call 78;((with_reducible refine (is1_any _ wd N _ cN).mono ?_));rintro e w1 ⟨rfl,rfl⟩))
    go_ret
    obtain ⟨A,c,M',hv,hc1,hc2,h4,_⟩:=T.out.freeze (α:=_) rfl rfl (T.out.fact (.head _))
    injection hv with hv1 hv2 hv3
    subst hv1 hv3
    exact ⟨acc,_,_,_,M',rfl,hc1,hc2,HA8.out,HX.out _ _ HST.out,h4.less fun P hP=>by
     rcases aL hP with rfl | hP
     ·exact .head _
     ·exact .tail _ (.tail _ hP)⟩
   ·obtain ⟨t,r,rfl⟩:∃ t r,l=t::r:=by
     cases l with
     | nil=>exact absurd (hbb.symm.trans (show (([]:Sx.Txt) == wd)=false by cases wd with | nil=>exact absurd rfl hwd | cons _ _=>rfl)) (by simp)
     | cons t r=>exact ⟨t,r,rfl⟩
    have HBB:=aI (show (fun t=>t == wd) t.1=true from hbb)
    have hb8:(Sx.pk (t::r,false) == wd)=true:=hbb
    clear hbb
    go_wp2_with (first | (go_at_call 75;((with_reducible refine (peek_any T.out).mono ?_));rintro e w1 ⟨rfl,rfl⟩) | (go_at_call 78;((with_reducible refine (is1_any _ wd N _ cN).mono ?_));rintro e w1 ⟨rfl,rfl⟩) | (go_at_call 36;((with_reducible refine (kind_any HE.out T.out).mono ?_));rintro e w3 ⟨a,us,st3,M3,rfl,x3,h3⟩;obtain ⟨A1,c1,rfl,r1,r2,r3,r4,r5,r6⟩:=rep_knd (h3.fact (.head _));replace T:=aI h3;have X3:=aI x3;clear h3 x3) | (at_builtin;obtain ⟨i0,hI,hz0,hz1,hz2⟩:=info_parts infoKnd;refine wpList_append_ph (by rfl) _ _ 24 (by rfl) 49 i0 _ 4 56 Tryz.underlying24 hI hz0 hz1 hz2 rfl (by decide) (T.out.below ((Below.refl _ _).alloc (Nat.le_refl _) _)) (by rfl) _ _ 1 1 [.string a.1,.int .i64 a.2.1,.int .i64 a.2.2.1,.slice A1 (Sc.flds a).length c1] (by rfl) (reads_blk (Blk.new _ _ _) rfl) (by simp [Value.oneCell']) (by have:=HA8.out;unfold maxLen;omega) (by have:=HA8.out;omega) ?_;intro v7 w7 M7 h7 _;replace T:=aI h7;clear h7 hI hz0 hz1 hz2))
    have hlt:=Sx.left_eats Sx.eats_kind X3.out
    have HFL:=aI ((T.out.fswap.flat (Flat.single (T.out.fact (.head _)))).less (L':=_::_) fun P hP=>by
     rcases aL hP with rfl | hP
     ·exact .head _
     ·exact .tail _ (.tail _ hP))
    rw [HL.out] at hlt
    go_roundg (Sx.left st3)
    case measure=>exact hlt
    case rel=>exact ⟨st3,acc++[a],_,_,by rw [aK];exact HFL.out,rfl,by rw [aK,List.length_singleton];omega,fun x st' hx=>HX.out _ _ (Sx.nx_many_step Sx.eats_kind HBB.out X3.out hx)⟩
  ·have HST:=aI (Sx.nx_many_stop (begins:=(fun t=>t == wd)) (read:=Sx.kind) (st:=(l,true)) (f:=l.length) (acc:=acc) (fun h=>by cases h))
   go_wp2_with fail
   go_ret
   obtain ⟨A,c,M',hv,hc1,hc2,h4,_⟩:=T.out.freeze (α:=_) rfl rfl (T.out.fact (.head _))
   injection hv with hv1 hv2 hv3
   subst hv1 hv3
   exact ⟨acc,_,_,_,M',rfl,hc1,hc2,HA8.out,HX.out _ _ HST.out,h4.less fun P hP=>by
    rcases aL hP with rfl | hP
    ·exact .head _
    ·exact .tail _ (.tail _ hP)⟩
end
def sTokVals (s:ByteArray) (l:List Tk):List Value:=l.flatMap fun p=>[.string (s.extract p.1 p.2),.int .i64 (p.1:Int)]
theorem sTokVals_snoc (s:ByteArray) (l:List Tk) (p:Tk):sTokVals s l++[.string (s.extract p.1 p.2),.int .i64 (p.1:Int)]=sTokVals s (l++[p]):=by simp [sTokVals]
def tokOf (s:ByteArray) (p:Tk):Sx.Tok:=(Vm.piece s.data.toList p.1 p.2,p.1)
theorem ext_ofT (s:ByteArray) (a e:Nat):s.extract a e=Sx.ofT (Vm.piece s.data.toList a e):=by rw [← Vm.piece_ext];exact str_eq rfl
theorem flat_stoks {G:List Nat} {w:World} {s:ByteArray} {n:Nat} (hn:n≤8192):∀ {l:List Tk},(∀ p∈l,p.1 < p.2∧p.2≤n)→Flat G w ((l.map (tokOf s)).map tokP) (sTokVals s l)
 | [],_=>rfl
 | p::l,h=>⟨[.string (s.extract p.1 p.2),.int .i64 (p.1:Int)],sTokVals s l,rfl,⟨[_],_,rfl,⟨by rw [ext_ofT];rfl,by
   show (Sx.ofT (Vm.piece s.data.toList p.1 p.2)).size≤_
   rw [ofT_size];unfold Vm.piece;rw [List.length_drop,List.length_take];have:=h p (.head _);omega⟩,⟨rfl,by have:=h p (.head _);show inI (p.1:Int);unfold inI;omega⟩⟩,flat_stoks hn fun q hq=>h q (.tail _ hq)⟩
theorem infoSTok:(Tryz.prog.info? 91).map (fun i=>(i.zero,i.size,i.bytes))=some (some (.agg #[.string ⟨#[]⟩,.int .i64 0]),2,24):=by kernel_rfl
theorem tok_cases3 (c:UInt8):(Vm.isTok c=true∧decide (32 < (c.toNat:Int))=true∧decide ((c.toNat:Int)≤126)=true)∨(Vm.isTok c=false∧decide (32 < (c.toNat:Int))=false)∨(Vm.isTok c=false∧decide (32 < (c.toNat:Int))=true∧decide ((c.toNat:Int)≤126)=false):=by
 unfold Vm.isTok
 simp only [Bool.and_eq_true,Bool.and_eq_false_iff,decide_eq_true_eq,decide_eq_false_iff_not]
 omega
def PScanG (G:List Nat) (l:List UInt8) (w:World) (e:Ending) (w':World):Prop:=∃ A c,e=.returned (.tuple #[.slice A (Sx.toks l).length c,.int .i64 (Sx.stopAt l:Nat)])∧(Sx.toks l).length≤c∧c≤9223372036854775807∧SlAt G w' A ((Sx.toks l).map tokP)∧TokOk (Sx.toks l)∧Below w.heap.size w w'
theorem pscan_end {s:ByteArray} {w W:World} {G:List Nat} (hG:∀ g∈G,g < w.heap.size) {M:List Nat} {v:Value} {toks:List Tk} {e n:Nat} (T:HRow w G M [] [] 91 2 v toks.length (sTokVals s toks) W) (h:Vm.scan s.data.toList (n+1) 0=(toks,e)) (hn:s.size=n) (hbd:(∀ p∈toks,p.1 < p.2∧p.2≤n)) (hm:n≤8192) (htl:toks.length≤n) :
  PScanG G s.data.toList w (.returned (.tuple #[v,.int .i64 (e:Nat)])) W:=by
 obtain ⟨A,c,hv,hc1,hc2,hF⟩:=T.freeze (l:=(toks.map (tokOf s)).map tokP) rfl (by simp) (flat_stoks hm hbd) hG
 subst hv
 have hl:s.data.toList.length=n:=by rw [Vm.strLn,hn]
 have ht:Sx.toks s.data.toList=toks.map (tokOf s):=by unfold Sx.toks;rw [hl,h];rfl
 have hst:Sx.stopAt s.data.toList=e:=by unfold Sx.stopAt;rw [hl,h]
 unfold PScanG
 rw [ht,hst]
 rw [List.length_map] at hc1
 refine ⟨A,c,by rw [List.length_map],hc1,hc2,(hF.fact (.head _)).sub (fun g hg=>.inl (List.mem_append_right _ hg)),⟨by rw [List.length_map];omega,fun t ht=>?_⟩,hF.bl⟩
 obtain ⟨p,hp,rfl⟩:=List.mem_map.1 ht
 have hpb:=hbd p hp
 have hlen:(Vm.piece s.data.toList p.1 p.2).length=p.2 - p.1:=by unfold Vm.piece;rw [List.length_drop,List.length_take,hl];omega
 refine ⟨fun e=>?_,?_,?_⟩
 ·have e:Vm.piece s.data.toList p.1 p.2=[]:=e
  rw [e] at hlen;simp at hlen;omega
 ·show (Vm.piece s.data.toList p.1 p.2).length≤8192
  omega
 ·show p.1≤8192
  omega
set_option maxRecDepth 100000 in
set_option maxHeartbeats 8000000 in
theorem pscanG_any (G:List Nat) (s:ByteArray) (w:World) (hG:∀ g∈G,g < w.heap.size) (hs:s.size≤8192):Calls Tryz.prog 31 #[.string s] w (PScanG G s.data.toList w):=by
 obtain ⟨i0,hi,hz0,hz1,hz2⟩:=info_parts infoSTok
 have HII:=aI (show _∧_∧_∧_ from ⟨hi,hz0,hz1,hz2⟩)
 obtain ⟨n,hn⟩:∃ n,s.size=n:=⟨_,rfl⟩
 have hsn:s.size=n:=hn
 rw [hn] at hs
 have T:=aI (HRow.start (e:=91) (size:=2) (held0 w G hG))
 clear hi hz0 hz1 hz2
 go_enter Tryz.func31,Tryz.ntmps31
 go_wp2_with fail
 go_loopg [4,5] n (fun r v a wr=>∃ (i f:Nat) (toks:List Tk) (M:List Nat),i+r=n∧a=.int .i64 i∧i≤n∧n < i+f∧toks.length≤i∧(∀ p∈toks,p.1 < p.2∧p.2≤n)∧(toks++(Vm.scan s.data.toList f i).1,(Vm.scan s.data.toList f i).2)=Vm.scan s.data.toList (n+1) 0∧HRow w G M [] [] 91 2 v toks.length (sTokVals s toks) wr)
 case atStart=>exact ⟨0,n+1,[],_,by omega,rfl,by omega,by omega,by simp,(fun _ h=>by cases h),by simp,T.out⟩
 case round =>
  obtain ⟨i,f,toks,M,hk,rfl,hin,hfu,htl,hbd,hsc,hH⟩:=hrel
  obtain ⟨wo,rfl⟩:∃ wo:World,wo=wr:=⟨_,rfl⟩
  obtain ⟨gq,rfl⟩:∃ g:Nat,g=gk:=⟨_,rfl⟩
  replace T:=aI hH
  have HBD:=aI hbd
  obtain ⟨f,rfl⟩:∃ f',f=f'+1:=⟨f - 1,by omega⟩
  have HSC:=aI hsc
  have HSE:=aI (Vm.scan_eq s.data.toList f i)
  clear hH hbd hsc
  by_cases hlt:i < n
  ·have hix:i < s.size:=by omega
   have k0:(0:Int)≤(i:Int):=Int.natCast_nonneg _
   have k1:(i:Int) < (n:Int):=by omega
   go_wp2_with fail
   go_loopg [6] (n - i) (fun r a wr2=>∃ m:Nat,i+m+r=n∧a=.int .i64 m∧wr2=wo∧∀ j (hj:j < s.data.toList.length),i≤j→j < i+m→Vm.isTok s.data.toList[j]=true)
   case atStart=>exact ⟨0,by omega,rfl,rfl,fun j _ h1 h2=>by omega⟩
   case round =>
    obtain ⟨m,hk2,rfl,rfl,hall⟩:=hrel
    obtain ⟨wo,rfl⟩:∃ w0:World,w0=wr:=⟨_,rfl⟩
    have HB:=aI hall
    clear hall
    obtain ⟨e,he⟩:∃ e,i+m=e:=⟨_,rfl⟩
    have hw:IntKind.i64.wrap ((i:Int)+(m:Int))=(e:Int):=by rw [wrapI (by unfold inI;omega)];omega
    rw [he] at HB
    have hem:e - i=m:=by omega
    have k2:(0:Int)≤(e:Int):=Int.natCast_nonneg _
    have hen:e≤n:=by omega
    have hie:i≤e:=by omega
    by_cases htk:e < n∧∃ h:e < s.size,Vm.isTok (s[e]'h)=true
    ·obtain ⟨hlt2,hex,ht⟩:=htk
     have k3:(e:Int) < (n:Int):=by omega
     rcases tok_cases3 (s[e]'hex) with ⟨_,q1,q2⟩ | ⟨ht2,_⟩ | ⟨ht2,_⟩
     ·have HT:=aI ht
      clear ht
      go_wp2_with fail
      go_roundg (gk - 1)
      case measure=>omega
      case rel =>
       refine ⟨m+1,by omega,by go_num,rfl,fun j hj h1 h2=>?_⟩
       rcases Nat.lt_or_ge j e with h' | h'
       ·exact HB.out j hj h1 h'
       ·obtain rfl:j=e:=by omega
        rw [Vm.str_get s j hex];exact HT.out
     ·rw [ht] at ht2;cases ht2
     ·rw [ht] at ht2;cases ht2
    ·have HW:=aI (Vm.wordAt_is (l:=s.data.toList) hie (by rw [Vm.strLn];omega) HB.out (by
      rcases Nat.lt_or_ge e n with h | h
      ·refine .inr ⟨by rw [Vm.strLn];omega,?_⟩
       rw [Vm.str_get s e (by omega)]
       cases hb:Vm.isTok (s[e]'(by omega)) with
       | false=>rfl
       | true=>exact absurd ⟨h,by omega,hb⟩ htk
      ·exact .inl (by rw [Vm.strLn];omega)))
     have hwl:(Vm.wordAt s.data.toList i).length=e - i:=by rw [HW.out,List.length_take,List.length_drop,Vm.strLn];omega
     have HWL:=aI hwl
     clear hwl
     have hx:(n≤e)∨(∃ (h1:e < n) (h:e < s.size),decide (32 < ((s[e]'h).toNat:Int))=false)∨(∃ (h1:e < n) (h:e < s.size),decide (32 < ((s[e]'h).toNat:Int))=true∧decide (((s[e]'h).toNat:Int)≤126)=false):=by
      rcases Nat.lt_or_ge e n with h | h
      ·have hes:e < s.size:=by omega
       rcases tok_cases3 (s[e]'hes) with ⟨q,_⟩ | ⟨_,q⟩ | ⟨_,q1,q2⟩
       ·exact absurd ⟨h,hes,q⟩ htk
       ·exact .inr (.inl ⟨h,hes,q⟩)
       ·exact .inr (.inr ⟨h,hes,q1,q2⟩)
      ·exact .inl h
     clear htk
     by_cases hm0:m=0
     ·subst hm0
      obtain rfl:i=e:=by omega
      rcases Vm.blank_cases (s[i]'hix) with ⟨hb,u1⟩ | ⟨hb,u1,u2⟩ | ⟨hb,u1,u2⟩
      ·have HSC2:=aI (show (toks++(Vm.scan s.data.toList (f+1) (i+1)).1,(Vm.scan s.data.toList (f+1) (i+1)).2)=Vm.scan s.data.toList (n+1) 0 by rw [← HSC.out,scan_blank (f:=f) (i:=i) (by rw [Vm.strLn];exact hix) (by rw [Vm.str_get s i hix];exact hb)])
       have hw1:IntKind.i64.wrap ((i:Int)+1)=((i+1:Nat):Int):=by rw [wrapI (by unfold inI;omega)];omega
       clear hb
       rcases hx with hx | ⟨_,hex,q1⟩ | ⟨_,hex,q1,q2⟩
       ·exact absurd hx (by omega)
       all_goals
        go_wp2_with fail
        go_roundg (gq - 1)
        case measure=>omega
        case rel=>exact ⟨i+1,f+1,_,_,by omega,by first | rfl | go_num,by omega,by omega,by omega,HBD.out,HSC2.out,T.out⟩
      ·have HSC2:=aI (show (toks++(Vm.scan s.data.toList (f+1) (i+1)).1,(Vm.scan s.data.toList (f+1) (i+1)).2)=Vm.scan s.data.toList (n+1) 0 by rw [← HSC.out,scan_blank (f:=f) (i:=i) (by rw [Vm.strLn];exact hix) (by rw [Vm.str_get s i hix];exact hb)])
       have hw1:IntKind.i64.wrap ((i:Int)+1)=((i+1:Nat):Int):=by rw [wrapI (by unfold inI;omega)];omega
       clear hb
       rcases hx with hx | ⟨_,hex,q1⟩ | ⟨_,hex,q1,q2⟩
       ·exact absurd hx (by omega)
       all_goals
        go_wp2_with fail
        go_roundg (gq - 1)
        case measure=>omega
        case rel=>exact ⟨i+1,f+1,_,_,by omega,by first | rfl | go_num,by omega,by omega,by omega,HBD.out,HSC2.out,T.out⟩
      ·have hsk:=Vm.skipN_is (l:=s.data.toList) (a:=i) (e:=i) (Nat.le_refl _) (by rw [Vm.strLn];omega) (fun j _ h1 h2=>by omega) (.inr ⟨by rw [Vm.strLn];exact hix,by rw [Vm.str_get s i hix];exact hb⟩)
       have HFIN:=aI (show Vm.scan s.data.toList (n+1) 0=(toks,i) by
        rw [← HSC.out,HSE.out,hsk,if_pos (List.eq_nil_of_length_eq_zero (by rw [HWL.out];omega))];simp)
       clear hb hsk
       rcases hx with hx | ⟨_,hex,q1⟩ | ⟨_,hex,q1,q2⟩
       ·exact absurd hx (by omega)
       all_goals
        go_wp2_with fail
        go_ret2
        exact pscan_end hG T.out HFIN.out hsn HBD.out hs (by omega)
     ·have t9:decide (0 < (m:Int))=true:=decide_eq_true (by omega)
      have htoki:Vm.isTok (s[i]'hix)=true:=by rw [← Vm.str_get s i hix (by rw [Vm.strLn];exact hix)];exact HB.out i _ (Nat.le_refl _) (by omega)
      have hbi:Vm.isBlank (s[i]'hix)=false:=by
       rcases Vm.blank_cases (s[i]'hix) with ⟨hb,u1⟩ | ⟨hb,u1,u2⟩ | ⟨hb,u1,u2⟩
       ·exfalso;unfold Vm.isTok at htoki;simp at htoki u1;omega
       ·exfalso;unfold Vm.isTok at htoki;simp at htoki u2;omega
       ·exact hb
      have hsk:=Vm.skipN_is (l:=s.data.toList) (a:=i) (e:=i) (Nat.le_refl _) (by rw [Vm.strLn];omega) (fun j _ h1 h2=>by omega) (.inr ⟨by rw [Vm.strLn];exact hix,by rw [Vm.str_get s i hix];exact hbi⟩)
      have HSC2:=aI (show (toks++[(i,e)]++(Vm.scan s.data.toList f e).1,(Vm.scan s.data.toList f e).2)=Vm.scan s.data.toList (n+1) 0 by
       rw [← HSC.out,HSE.out,hsk,HWL.out,if_neg (fun h=>by have:=HWL.out;rw [h] at this;simp at this;omega),show i+(e - i)=e by omega]
       simp)
      have HVS:=aI (sTokVals_snoc s toks (i,e))
      obtain ⟨na,hna⟩:∃ z,toks.length=z:=⟨_,rfl⟩
      have HNA:=aI (show (toks++[(i,e)]).length=na+1 by rw [aK,hna];rfl)
      rw [hna] at T htl
      have HBD2:=aI (show ∀ p∈toks++[(i,e)],p.1 < p.2∧p.2≤n from fun p hp=>by
       rcases List.mem_append.1 hp with h | h
       ·exact HBD.out p h
       ·rw [List.mem_singleton.1 h];exact ⟨by show i < e;omega,by show e≤n;omega⟩)
      have j1:(i:Int)≤(e:Int):=by omega
      have j2:(e:Int)≤(n:Int):=by omega
      clear hna htoki hbi hsk
      rcases hx with hx | ⟨_,hex,q1⟩ | ⟨_,hex,q1,q2⟩
      ·have k3:¬ (e:Int) < (n:Int):=by omega
       go_wp2_with (at_builtin;obtain ⟨hi,hz0,hz1,hz2⟩:=HII.out;refine wpList_append_row (by rfl) _ _ 74 (by rfl) 91 i0 _ 2 24 Tryz.underlying74 hi hz0 hz1 hz2 rfl (by decide) (T.out.below ((Below.refl _ _).alloc (Nat.le_refl _) _)) (by rfl) _ _ 1 1 [.string (s.extract i e),.int .i64 (i:Int)] (by rfl) (reads_blk (Blk.new _ _ _) rfl) (by simp [Value.oneCell']) (by unfold maxLen;omega) (by omega) ?_;intro v5 w5 M5 h5 _;rw [HVS.out,← HNA.out] at h5;replace T:=aI h5;clear h5 hi hz0 hz1 hz2)
       go_roundg (gq - (e - i))
       case measure=>omega
       case rel=>exact ⟨e,f,_,_,by omega,by first | rfl | go_num,by omega,by omega,by rw [HNA.out];omega,HBD2.out,HSC2.out,T.out⟩
      all_goals
       have k3:(e:Int) < (n:Int):=by omega
       go_wp2_with (at_builtin;obtain ⟨hi,hz0,hz1,hz2⟩:=HII.out;refine wpList_append_row (by rfl) _ _ 74 (by rfl) 91 i0 _ 2 24 Tryz.underlying74 hi hz0 hz1 hz2 rfl (by decide) (T.out.below ((Below.refl _ _).alloc (Nat.le_refl _) _)) (by rfl) _ _ 1 1 [.string (s.extract i e),.int .i64 (i:Int)] (by rfl) (reads_blk (Blk.new _ _ _) rfl) (by simp [Value.oneCell']) (by unfold maxLen;omega) (by omega) ?_;intro v5 w5 M5 h5 _;rw [HVS.out,← HNA.out] at h5;replace T:=aI h5;clear h5 hi hz0 hz1 hz2)
       go_roundg (gq - (e - i))
       case measure=>omega
       case rel=>exact ⟨e,f,_,_,by omega,by first | rfl | go_num,by omega,by omega,by rw [HNA.out];omega,HBD2.out,HSC2.out,T.out⟩
  ·have hii:i=n:=by omega
   have HFIN:=aI (show Vm.scan s.data.toList (n+1) 0=(toks,n) by
    have h:s.data.toList.length=n:=by rw [Vm.strLn,hsn]
    rw [← HSC.out,hii,← h,scan_len];simp)
   subst hii
   go_wp2_with fail
   go_ret2
   exact pscan_end hG T.out HFIN.out hsn HBD.out hs (by omega)
theorem SEnv.to {w w':World} (h:SEnv w) (hb:Below w.heap.size w w'):SEnv w':=h.below hb h.sz
theorem Bld.hnew {w W:World} {G M:List Nat} {bx:List Box} {L:List (List Nat→World→Prop)} (h:Held w G M bx L W) {N:Nat} (hN:W.heap.size=N):Bld w G (N::M) bx L N [] (W.alloc (.cells #[.pointer none,.slice none 0 0] 141)):=by subst hN;exact Bld.new h
section
variable {w W:World} {G M:List Nat} {bx:List Box} {L:List (List Nat→World→Prop)} {b:Nat} {l:List UInt8}
theorem Bld.add (h:Bld w G M bx L b l W) {P:List Nat→World→Prop} (hk:Keeps P) (hp:P M W):Bld w G M bx (P::L) b l W:=by
 obtain ⟨p,v,hv,h⟩:=h.it
 exact ⟨⟨p,v,hv,h.add hk hp⟩⟩
theorem Bld.less {L':List (List Nat→World→Prop)} (h:Bld w G M bx L b l W) (hL:∀ P∈L',P∈L):Bld w G M bx L' b l W:=by
 obtain ⟨p,v,hv,h⟩:=h.it
 exact ⟨⟨p,v,hv,h.less hL⟩⟩
theorem Bld.ltail {P:List Nat→World→Prop} (h:Bld w G M bx (P::L) b l W):Bld w G M bx L b l W:=h.less fun _ hP=>.tail _ hP
end
set_option maxRecDepth 100000 in
set_option maxHeartbeats 16000000 in
theorem source_any (x:Sch) (us:List Value) (w:World) (h:Mem.rep [] w x us) (hok:Sx.okB x=true) (he:SEnv w):Calls Tryz.prog 51 #[.agg us.toArray] w fun e w'=>e=.returned (.string ⟨(Sx.source x).toArray⟩)∧Below w.heap.size w w':=by
 obtain ⟨A,c,B,d,C,e,rfl,s1,s2,s3,a1,b1,b2,b3,b4,b5,b6⟩:=rep_sch h
 have OB:=Sx.okB_bd hok
 have HOB:=aI OB
 have HOK:=aI hok
 have hx0:=OB.v
 have hnk:=OB.nk;have hnl:=OB.nl;have hnr:=OB.nr
 obtain ⟨S,hS⟩:∃ s,Sx.source x=s:=⟨_,rfl⟩
 have hSl:S.length≤1000000:=by rw [← hS];exact Sx.source_le OB
 have HS0:=aI (show ([]:Sx.Txt)++(Sx.linesL x).flatMap Sx.lineT=S from hS)
 have HS:=aI hS
 obtain ⟨nk,hk⟩:∃ n,(Sc.kinds x).length=n:=⟨_,rfl⟩
 obtain ⟨nl,hl⟩:∃ n,x.2.2.1.length=n:=⟨_,rfl⟩
 obtain ⟨nr,hr⟩:∃ n,x.2.2.2.length=n:=⟨_,rfl⟩
 have HNK:=aI hk;have HNL:=aI hl;have HNR:=aI hr
 rw [hk] at hnk;rw [hl] at hnl;rw [hr] at hnr
 obtain ⟨N,hN⟩:∃ n,w.heap.size=n:=⟨_,rfl⟩
 obtain ⟨W0,hW0⟩:∃ X,w.alloc (.cells #[.int .i64 x.1,.slice A nk c,.slice B nl d,.slice C nr e] 28)=X:=⟨_,rfl⟩
 have hb0:Below w.heap.size w W0:=by rw [← hW0];exact (Below.refl w.heap.size w).alloc (Nat.le_refl _) _
 have hbk:Blk W0 N 28 #[.int .i64 x.1,.slice A nk c,.slice B nl d,.slice C nr e]:=by rw [← hW0,← hN];exact Blk.new w _ _
 have T0:=aI (((((held0 W0 [] (fun _ h=>by cases h)).add (keeps_sl C x.2.2.2) (s3.keep (Chg.of_below hb0))).add (keeps_sl B x.2.2.1) (s2.keep (Chg.of_below hb0))).add (keeps_sl A (Sc.kinds x)) (s1.keep (Chg.of_below hb0))).add (P:=fun M W=>N∉M∧Blk W N 28 #[.int .i64 x.1,.slice A nk c,.slice B nl d,.slice C nr e]) (keeps_blk _ _ _) ⟨by simp,hbk⟩)
 have HB:=aI hb0
 have HE:=aI (he.to hb0)
 have HW0:=aI hW0
 have HN:=aI hN
 show Calls Tryz.prog 51 #[.agg #[.int .i64 x.1,.slice A (Sc.kinds x).length c,.slice B x.2.2.1.length d,.slice C x.2.2.2.length e]] w _
 rw [hk,hl,hr]
 clear h s1 s2 s3 a1 b1 b2 b3 b4 b5 b6 hk hl hr hbk hb0 hW0 hN he OB hS
 go_enter Tryz.func51,Tryz.ntmps51
 go_upto_region 1 with fail
 rw [HW0.out,HN.out]
 replace HW0:=aI (HW0.out)
 obtain ⟨w1,rfl⟩:∃ w1:World,w1=W0:=⟨_,rfl⟩
 obtain ⟨Nb,hNb⟩:∃ n,w1.heap.size=n:=⟨_,rfl⟩
 have T:=aI (Bld.hnew T0.out hNb)
 have HNb:=aI hNb
 clear T0 hNb
 go_upto_region 2 with fail
 rw [HNb.out]
 generalize w1.alloc (.cells #[.pointer none,.slice none 0 0] 141)=w2 at *
 have hbk:=(T.out.fact (.head _)).2
 have z0:=hbk.cell 0
 simp at z0
 clear hbk
 obtain ⟨acc,hacc0⟩:∃ a:Sx.Txt,[]=a:=⟨_,rfl⟩
 rw [hacc0] at T HS0
 clear hacc0
 have HFT:=aI (show ∀ a∈([.n x.1]:List Sx.Av),a.fit by
  intro a ha
  simp only [List.mem_cons,List.not_mem_nil,or_false] at ha
  subst ha
  ·exact (show -1000000000≤x.1∧x.1≤1000000000 by omega))
 have CL:=aI (fun (W:World) (hb:Below w1.heap.size w1 W)=>show Calls Tryz.prog 104 #[.string ⟨#[115,99,104,101,109,97]⟩,.slice (some ⟨W.heap.size,0,none⟩) 1 1] (W.alloc (.cells #[.iface 3 (.int .i64 x.1)] 20)) fun e w'=>e=.returned (.string ⟨(Sx.lineT [Sx.sSchema,Sx.num x.1]).toArray⟩)∧Below W.heap.size W w' from line_new ⟨#[115,99,104,101,109,97]⟩ [.n x.1] W HFT.out (Nat.le_of_ble_eq_true rfl) (by decide) (HE.out.t.below hb HE.out.t.sz))
 obtain ⟨d9,hd9⟩:∃ d:ByteArray,(⟨(Sx.lineT [Sx.sSchema,Sx.num x.1]).toArray⟩:ByteArray)=d:=⟨_,rfl⟩
 rw [hd9] at CL
 have HD9:=aI (show d9.data.toList=Sx.lineT [Sx.sSchema,Sx.num x.1] by rw [← hd9])
 have HR:=aI (Sx.src_step (l:=[Sx.sSchema,Sx.num x.1]) HS0.out)
 have hds:acc.length+d9.size≤1000000:=by
  have h:=Sx.src_le HR.out
  rw [aK,← HD9.out,strLen] at h
  omega
 clear hd9 HFT HS0
 go_upto_region 3 with (first | (go_at_call 104;((with_reducible refine (CL.out _ T.out.bl).mono ?_));rintro e w2 ⟨rfl,hb2⟩;replace T:=aI (T.out.below hb2);clear hb2 z0) | (go_at_call 103;((with_reducible refine (writeString_any d9 T.out (by omega)).mono ?_));rintro e w3 ⟨rfl,M3,hT3,_⟩;replace T:=aI hT3;clear hT3))
 rw [HD9.out] at T
 obtain ⟨RK,hRK⟩:∃ R,x.2.2.1.flatMap Sx.lifL++x.2.2.2.map Sx.rulL=R:=⟨_,rfl⟩
 rw [hRK] at HR
 have HRK:=aI hRK
 generalize acc++Sx.lineT [Sx.sSchema,Sx.num x.1]=acc at *
 have hbk:=(T.out.fact (.head _)).2
 have z1:=hbk.cell 1
 simp at z1
 clear hbk HD9 CL hRK hds
 go_wp2_with fail
 clear z1
 go_loopg [26] nk (fun r i wr=>∃ (k:Nat) (acc:Sx.Txt) (M:List Nat),k+r=nk∧i=.int .i64 k∧acc++(((Sc.kinds x).drop k).flatMap Sx.kndL++RK).flatMap Sx.lineT=S∧Bld w1 [] M [] [fun M W=>N∉M∧Blk W N 28 #[.int .i64 x.1,.slice A nk c,.slice B nl d,.slice C nr e],fun M W=>SlAt M W A (Sc.kinds x),fun M W=>SlAt M W B x.2.2.1,fun M W=>SlAt M W C x.2.2.2] Nb acc wr)
 case atStart=>exact ⟨0,acc,_,by omega,rfl,HR.out,T.out⟩
 case round =>
  clear HR T
  obtain ⟨k,acc,M,hk,rfl,hacc,hT⟩:=hrel
  obtain ⟨wo,rfl⟩:∃ wo:World,wo=wr:=⟨_,rfl⟩
  obtain ⟨gq,rfl⟩:∃ g:Nat,g=gk:=⟨_,rfl⟩
  have T:=aI hT
  clear hT
  by_cases hlt:k < nk
  ·have hkp:k < (Sc.kinds x).length:=by rw [HNK.out];exact hlt
   have k0:(0:Int)≤(k:Int):=Int.natCast_nonneg _
   have k1:(k:Int) < (nk:Int):=by omega
   have HR:=aI hacc
   rw [List.drop_eq_getElem_cons hkp,List.flatMap_cons,List.append_assoc] at HR
   have kb:=HOB.out.k _ (List.getElem_mem hkp)
   obtain ⟨b,o,F,cf,rfl,_,c0,c1,c2,c3,hsl,_⟩:=knd_at (T.out.fact (.tail _ (.head _))) k hkp
   obtain ⟨kd,hkd⟩:∃ z,(Sc.kinds x)[k]=z:=⟨_,rfl⟩
   rw [hkd] at c0 c1 c2 c3 hsl HR kb
   have HKB:=aI kb
   have hq1:=kb.nm;have hq2:=kb.lo;have hq3:=kb.hi
   obtain ⟨nf,hnf⟩:∃ n,(Sc.flds kd).length=n:=⟨_,rfl⟩
   have HNF:=aI hnf
   have hq4:=kb.n
   rw [hnf] at c3 hq4
   obtain ⟨Nk,hNk⟩:∃ n,wo.heap.size=n:=⟨_,rfl⟩
   replace T:=aI ((T.out.add (keeps_sl F (Sc.flds kd)) hsl).newBox #[.string kd.1,.int .i64 kd.2.1,.int .i64 kd.2.2.1,.slice F nf cf] 49 hNk)
   clear hnf hacc hkd kb hsl
   go_upto_region 6 with fail
   generalize wo.alloc (.cells #[.string kd.1,.int .i64 kd.2.1,.int .i64 kd.2.2.1,.slice F nf cf] 49)=w5 at *
   clear hNk c0 c1 c2 c3
   have hbk:=T.out.box (.head _)
   have z0:=hbk.cell 0;have z1:=hbk.cell 1;have z2:=hbk.cell 2
   simp at z0 z1 z2
   clear hbk
   have HR0:=aI (show acc++([Sx.sKind,Sx.bs kd.1,Sx.num kd.2.1,Sx.num kd.2.2.1]::((Sc.flds kd).map Sx.fldT++(((Sc.kinds x).drop (k+1)).flatMap Sx.kndL++RK))).flatMap Sx.lineT=S from HR.out)
   clear HR
   have HFT:=aI (show ∀ a∈([.s kd.1,.n kd.2.1,.n kd.2.2.1]:List Sx.Av),a.fit by
    intro a ha
    simp only [List.mem_cons,List.not_mem_nil,or_false] at ha
    rcases ha with rfl | rfl | rfl
    ·exact (show ByteArray.size kd.1≤100 by omega)
    ·exact (show -1000000000≤kd.2.1∧kd.2.1≤1000000000 by omega)
    ·exact (show -1000000000≤kd.2.2.1∧kd.2.2.1≤1000000000 by omega))
   have CL:=aI (fun (W:World) (hb:Below w1.heap.size w1 W)=>show Calls Tryz.prog 104 #[.string ⟨#[107,105,110,100]⟩,.slice (some ⟨W.heap.size,0,none⟩) 3 3] (W.alloc (.cells #[.iface 9 (.string kd.1),.iface 3 (.int .i64 kd.2.1),.iface 3 (.int .i64 kd.2.2.1)] 20)) fun e w'=>e=.returned (.string ⟨(Sx.lineT [Sx.sKind,Sx.bs kd.1,Sx.num kd.2.1,Sx.num kd.2.2.1]).toArray⟩)∧Below W.heap.size W w' from line_new ⟨#[107,105,110,100]⟩ [.s kd.1,.n kd.2.1,.n kd.2.2.1] W HFT.out (Nat.le_of_ble_eq_true rfl) (by decide) (HE.out.t.below hb HE.out.t.sz))
   obtain ⟨d9,hd9⟩:∃ d:ByteArray,(⟨(Sx.lineT [Sx.sKind,Sx.bs kd.1,Sx.num kd.2.1,Sx.num kd.2.2.1]).toArray⟩:ByteArray)=d:=⟨_,rfl⟩
   rw [hd9] at CL
   have HD9:=aI (show d9.data.toList=Sx.lineT [Sx.sKind,Sx.bs kd.1,Sx.num kd.2.1,Sx.num kd.2.2.1] by rw [← hd9])
   have HR1:=aI (Sx.src_step (l:=[Sx.sKind,Sx.bs kd.1,Sx.num kd.2.1,Sx.num kd.2.2.1]) HR0.out)
   have hds:acc.length+d9.size≤1000000:=by
    have h:=Sx.src_le HR1.out
    rw [aK,← HD9.out,strLen] at h
    omega
   clear hd9 HFT HR0
   go_upto_region 7 with (first | (go_at_call 104;((with_reducible refine (CL.out _ T.out.bl).mono ?_));rintro e w2 ⟨rfl,hb2⟩;replace T:=aI (T.out.below hb2);clear hb2 z0 z1 z2) | (go_at_call 103;((with_reducible refine (writeString_any d9 T.out (by omega)).mono ?_));rintro e w3 ⟨rfl,M3,hT3,_⟩;replace T:=aI hT3;clear hT3))
   rw [HD9.out] at T
   obtain ⟨R2,hR2⟩:∃ R,((Sc.kinds x).drop (k+1)).flatMap Sx.kndL++RK=R:=⟨_,rfl⟩
   rw [hR2] at HR1
   have HR2:=aI hR2
   generalize acc++Sx.lineT [Sx.sKind,Sx.bs kd.1,Sx.num kd.2.1,Sx.num kd.2.2.1]=acc1 at *
   have z3:=(T.out.box (.head _)).cell 3
   simp at z3
   replace T:=aI T.out.rest
   clear HD9 CL hR2 hds
   go_wp2_with fail
   clear z3
   go_loopg [45] nf (fun r i wr=>∃ (j:Nat) (acc:Sx.Txt) (M:List Nat),j+r=nf∧i=.int .i64 j∧acc++(((Sc.flds kd).drop j).map Sx.fldT++R2).flatMap Sx.lineT=S∧Bld w1 [] M [] ((fun M W=>SlAt M W F (Sc.flds kd))::[fun M W=>N∉M∧Blk W N 28 #[.int .i64 x.1,.slice (some ⟨b,o,none⟩) nk c,.slice B nl d,.slice C nr e],fun M W=>SlAt M W (some ⟨b,o,none⟩) (Sc.kinds x),fun M W=>SlAt M W B x.2.2.1,fun M W=>SlAt M W C x.2.2.2]) Nb acc wr)
   case atStart=>exact ⟨0,acc1,_,by omega,rfl,HR1.out,T.out⟩
   case round =>
    clear HR1 T
    obtain ⟨j,acc,M,hj,rfl,hacc,hT⟩:=hrel
    obtain ⟨wi,rfl⟩:∃ wo:World,wo=wr:=⟨_,rfl⟩
    have T:=aI hT
    clear hT
    by_cases hlt2:j < nf
    ·have hjp:j < (Sc.flds kd).length:=by rw [HNF.out];exact hlt2
     have j0:(0:Int)≤(j:Int):=Int.natCast_nonneg _
     have j1:(j:Int) < (nf:Int):=by omega
     have HR:=aI hacc
     rw [List.drop_eq_getElem_cons hjp,List.map_cons,List.cons_append] at HR
     have fb:=HKB.out.f _ (List.getElem_mem hjp)
     obtain ⟨b2,o2,us,rfl,_,hr,hc⟩:=(T.out.fact (.head _)).get j hjp
     obtain ⟨fd,hfd⟩:∃ z,(Sc.flds kd)[j]=z:=⟨_,rfl⟩
     rw [hfd] at HR fb hr
     have hr0:=hr
     obtain ⟨Aw,cw,Bw,dw,rfl,_⟩:=rep_fld hr0
     clear hr0
     rw [show Mem.sz Fld=8 from rfl] at hc
     have y0:wi.cell? ⟨b2,o2+j*8,none⟩=some (.string (Sc.nm fd)):=hc 0 _ rfl
     have y1:wi.cell? ⟨b2,o2+j*8+1,none⟩=some (.string (Sc.of_ fd)):=hc 1 _ rfl
     have y2:wi.cell? ⟨b2,o2+j*8+2,none⟩=some (.string (Sc.up fd)):=hc 2 _ rfl
     have y3:wi.cell? ⟨b2,o2+j*8+3,none⟩=some (.int .i64 (Sc.kd fd)):=hc 3 _ rfl
     have y4:wi.cell? ⟨b2,o2+j*8+4,none⟩=some (.int .i64 (Sc.lo fd)):=hc 4 _ rfl
     have y5:wi.cell? ⟨b2,o2+j*8+5,none⟩=some (.int .i64 (Sc.hi fd)):=hc 5 _ rfl
     have y6:wi.cell? ⟨b2,o2+j*8+6,none⟩=some (.slice Aw (Sc.words fd).length cw):=hc 6 _ rfl
     have y7:wi.cell? ⟨b2,o2+j*8+7,none⟩=some (.slice Bw (Sc.wts fd).length dw):=hc 7 _ rfl
     obtain ⟨Nf,hNf⟩:∃ n,wi.heap.size=n:=⟨_,rfl⟩
     replace T:=aI ((T.out.add (keeps_rep fd _) hr).newBox #[.string (Sc.nm fd),.string (Sc.of_ fd),.string (Sc.up fd),.int .i64 (Sc.kd fd),.int .i64 (Sc.lo fd),.int .i64 (Sc.hi fd),.slice Aw (Sc.words fd).length cw,.slice Bw (Sc.wts fd).length dw] 52 hNf)
     have HFB:=aI fb
     clear hacc hfd hr hc fb
     go_upto_region 10 with fail
     generalize wi.alloc (.cells #[.string (Sc.nm fd),.string (Sc.of_ fd),.string (Sc.up fd),.int .i64 (Sc.kd fd),.int .i64 (Sc.lo fd),.int .i64 (Sc.hi fd),.slice Aw (Sc.words fd).length cw,.slice Bw (Sc.wts fd).length dw] 52)=w6 at *
     clear hNf y0 y1 y2 y3 y4 y5 y6 y7
     have hbk:=T.out.box (.head _)
     have z0:=hbk.cell 0;have z1:=hbk.cell 1;have z2:=hbk.cell 2;have z3:=hbk.cell 3;have z4:=hbk.cell 4;have z5:=hbk.cell 5;have z6:=hbk.cell 6;have z7:=hbk.cell 7
     simp at z0 z1 z2 z3 z4 z5 z6 z7
     clear hbk
     have CF:=aI (show Calls Tryz.prog 105 #[.agg #[.string (Sc.nm fd),.string (Sc.of_ fd),.string (Sc.up fd),.int .i64 (Sc.kd fd),.int .i64 (Sc.lo fd),.int .i64 (Sc.hi fd),.slice Aw (Sc.words fd).length cw,.slice Bw (Sc.wts fd).length dw]] w6 fun e w'=>e=.returned (.string ⟨(Sx.lineT (Sx.fldT fd)).toArray⟩)∧Below w6.heap.size w6 w' from pfield_any fd _ w6 (Mem.sub (T.out.fact (.head _)) (fun g hg=>by cases hg)) HFB.out (HE.out.to T.out.bl))
     obtain ⟨d9,hd9⟩:∃ d:ByteArray,(⟨(Sx.lineT (Sx.fldT fd)).toArray⟩:ByteArray)=d:=⟨_,rfl⟩
     rw [hd9] at CF
     have HD9:=aI (show d9.data.toList=Sx.lineT (Sx.fldT fd) by rw [← hd9])
     have HR1:=aI (Sx.src_step HR.out)
     have hds:acc.length+d9.size≤1000000:=by
      have h:=Sx.src_le HR1.out
      rw [aK,← HD9.out,strLen] at h
      omega
     clear hd9 HR
     go_wp2_with (first | (go_at_call 105;((with_reducible refine (CF.out).mono ?_));rintro e w2 ⟨rfl,hb2⟩;replace T:=aI (T.out.below hb2);clear hb2 z0 z1 z2 z3 z4 z5 z6 z7) | (go_at_call 103;((with_reducible refine (writeString_any d9 T.out (by omega)).mono ?_));rintro e w3 ⟨rfl,M3,hT3,_⟩;replace T:=aI hT3;clear hT3))
     rw [HD9.out] at T
     go_roundg (gk - 1)
     case measure=>omega
     case rel=>exact ⟨j+1,_,_,by omega,by go_num,HR1.out,T.out.rest.ltail⟩
    ·have j1:¬ (j:Int) < (nf:Int):=by omega
     rw [List.drop_eq_nil_of_le (by rw [HNF.out];omega),List.map_nil,List.nil_append,← HR2.out] at hacc
     have HR:=aI hacc
     clear hacc
     go_wp2_with fail
     go_roundg (gq - 1)
     case measure=>omega
     case rel=>exact ⟨k+1,_,_,by omega,by go_num,HR.out,T.out.ltail⟩
  ·have k1:¬ (k:Int) < (nk:Int):=by omega
   rw [List.drop_eq_nil_of_le (by rw [HNK.out];omega),List.flatMap_nil,List.nil_append] at hacc
   rw [← HRK.out] at hacc
   have HR:=aI hacc
   clear hacc
   obtain ⟨RR,hRR⟩:∃ R,x.2.2.2.map Sx.rulL=R:=⟨_,rfl⟩
   rw [hRR] at HR
   have HRR:=aI hRR
   have hbk:=(T.out.fact (.head _)).2
   have z2:=hbk.cell 2
   simp at z2
   clear hbk hRR
   go_wp2_with fail
   clear z2 k1 hlt hk
   go_loopg [57] nl (fun r i wr=>∃ (k:Nat) (acc:Sx.Txt) (M:List Nat),k+r=nl∧i=.int .i64 k∧acc++((x.2.2.1.drop k).flatMap Sx.lifL++RR).flatMap Sx.lineT=S∧Bld w1 [] M [] [fun M W=>N∉M∧Blk W N 28 #[.int .i64 x.1,.slice A nk c,.slice B nl d,.slice C nr e],fun M W=>SlAt M W A (Sc.kinds x),fun M W=>SlAt M W B x.2.2.1,fun M W=>SlAt M W C x.2.2.2] Nb acc wr)
   case atStart=>exact ⟨0,acc,_,by omega,rfl,HR.out,T.out⟩
   case round =>
    clear HR T
    obtain ⟨k,acc,M,hk,rfl,hacc,hT⟩:=hrel
    obtain ⟨wo,rfl⟩:∃ wo:World,wo=wr:=⟨_,rfl⟩
    obtain ⟨gq,rfl⟩:∃ g:Nat,g=gk:=⟨_,rfl⟩
    have T:=aI hT
    clear hT
    by_cases hlt:k < nl
    ·have hkp:k < x.2.2.1.length:=by rw [HNL.out];exact hlt
     have k0:(0:Int)≤(k:Int):=Int.natCast_nonneg _
     have k1:(k:Int) < (nl:Int):=by omega
     have HR:=aI hacc
     rw [List.drop_eq_getElem_cons hkp,List.flatMap_cons,List.append_assoc] at HR
     have lb:=HOB.out.l _ (List.getElem_mem hkp)
     obtain ⟨b,o,us,rfl,_,hr,hc⟩:=(T.out.fact (.tail _ (.tail _ (.head _)))).get k hkp
     obtain ⟨ld,hld⟩:∃ z,x.2.2.1[k]=z:=⟨_,rfl⟩
     rw [hld] at HR lb hr
     obtain ⟨As,cs,Am,cm,rfl,hs1,hs2,_⟩:=rep_lif hr
     rw [show Mem.sz Lif=3 from rfl] at hc
     have c0:wo.cell? ⟨b,o+k*3,none⟩=some (.string ld.1):=hc 0 _ rfl
     have c1:wo.cell? ⟨b,o+k*3+1,none⟩=some (.slice As ld.2.1.length cs):=hc 1 _ rfl
     have c2:wo.cell? ⟨b,o+k*3+2,none⟩=some (.slice Am ld.2.2.length cm):=hc 2 _ rfl
     have HLB:=aI lb
     have hq1:=lb.nm;have hq2:=lb.n;have hq3:=lb.m
     obtain ⟨ns,hns⟩:∃ n,ld.2.1.length=n:=⟨_,rfl⟩
     obtain ⟨nm,hnm⟩:∃ n,ld.2.2.length=n:=⟨_,rfl⟩
     have HNS:=aI hns;have HNM:=aI hnm
     rw [hns] at c1 hq2;rw [hnm] at c2 hq3
     obtain ⟨Nl,hNl⟩:∃ n,wo.heap.size=n:=⟨_,rfl⟩
     replace T:=aI (((T.out.add (keeps_sl Am ld.2.2) hs2).add (keeps_sl As ld.2.1) hs1).newBox #[.string ld.1,.slice As ns cs,.slice Am nm cm] 55 hNl)
     clear hns hnm hacc hld lb hr hc hs1 hs2
     go_upto_region 16 with fail
     generalize wo.alloc (.cells #[.string ld.1,.slice As ns cs,.slice Am nm cm] 55)=w5 at *
     clear hNl c0 c1 c2
     have hbk:=T.out.box (.head _)
     have z0:=hbk.cell 0;have z1:=hbk.cell 1
     simp at z0 z1
     clear hbk
     have HSS:=aI (show SlAt [] w5 As ld.2.1 from (T.out.fact (.head _)).sub (fun g hg=>by cases hg))
     obtain ⟨Mr,hTR,_⟩:=((held0 w5 [] (fun _ h=>by cases h)).add (keeps_sl As ld.2.1) HSS.out).take ((Below.refl _ _).alloc (Nat.le_refl _) _) (World.ownsRow_lit (base:=w5.heap.size) (size:=1) (e:=20) w5 #[.iface 9 (.string ld.1),.iface 3 (.int .i64 (ns:Int))] 2 (Nat.le_refl _) (by decide) rfl)
     have TR:=aI (show HRow w5 [] Mr [] [fun M W=>SlAt M W As ld.2.1] 20 1 (.slice (some ⟨w5.heap.size,0,none⟩) 2 2) 2 (avCells ([.s ld.1,.n (ns:Int)]++(ld.2.1.take 0).map Sx.Av.s)) _ from hTR)
     clear hTR
     go_upto_region 17 with fail
     generalize w5.alloc (.cells #[.iface 9 (.string ld.1),.iface 3 (.int .i64 (ns:Int))] 20)=w6 at *
     clear z0 z1
     have HB6:=aI TR.out.h.bl
     have z1:=((T.out.box (.head _)).below HB6.out (T.out.box (.head _)).lt).cell 1
     simp at z1
     go_wp2_with fail
     clear z1
     go_loopg [10,72] ns (fun r v i wr=>∃ (j:Nat) (M:List Nat),j+r=ns∧i=.int .i64 j∧HRow w5 [] M [] [fun M W=>SlAt M W As ld.2.1] 20 1 v (2+j) (avCells ([.s ld.1,.n (ns:Int)]++(ld.2.1.take j).map Sx.Av.s)) wr)
     case atStart=>exact ⟨0,_,by omega,rfl,TR.out⟩
     case round =>
      clear TR HB6
      obtain ⟨j,M6,hj,rfl,hT⟩:=hrel
      obtain ⟨wi,rfl⟩:∃ wo:World,wo=wr:=⟨_,rfl⟩
      have TR:=aI hT
      clear hT
      obtain ⟨A4,c4,rfl⟩:=own_form TR.out.own
      by_cases hlt2:j < ns
      ·have hjp:j < ld.2.1.length:=by rw [HNS.out];exact hlt2
       have j0:(0:Int)≤(j:Int):=Int.natCast_nonneg _
       have j1:(j:Int) < (ns:Int):=by omega
       obtain ⟨b2,o2,rfl,_,d0,_⟩:=str_at (TR.out.h.fact (.head _)) j hjp
       have HX:=aI (show avCells ([.s ld.1,.n (ns:Int)]++(ld.2.1.take j).map Sx.Av.s)++[.iface 9 (.string ld.2.1[j])]=avCells ([.s ld.1,.n (ns:Int)]++(ld.2.1.take (j+1)).map Sx.Av.s) by
        rw [take_snoc' ld.2.1 j hjp,List.map_append,← List.append_assoc];exact (avCells_append _ [Sx.Av.s ld.2.1[j]]).symm)
       generalize ld.2.1[j]=s0 at d0 HX
       obtain ⟨i0,hI,hz0,hz1,hz2⟩:=info_parts infoAny
       have HII:=aI (show _∧_∧_∧_ from ⟨hI,hz0,hz1,hz2⟩)
       clear hI hz0 hz1 hz2
       go_wp2_with (at_builtin;obtain ⟨hI,hz0,hz1,hz2⟩:=HII.out;refine wpList_append_row (by rfl) _ _ 143 (by rfl) 20 i0 _ 1 16 Tryz.underlying143 hI hz0 hz1 hz2 rfl (by decide) (TR.out.below ((Below.refl _ _).alloc (Nat.le_refl _) _)) (by rfl) _ _ 1 1 [.iface 9 (.string s0)] (by rfl) (reads_blk (Blk.new _ _ _) rfl) (by simp [Value.oneCell']) (by unfold maxLen;omega) (by omega) ?_;intro v7 w7 M7 h7 _;rw [HX.out] at h7;replace TR:=aI h7;clear h7 hI hz0 hz1 hz2)
       go_roundg (gk - 1)
       case measure=>omega
       case rel=>exact ⟨j+1,_,by omega,by go_num,TR.out⟩
      ·have j1:¬ (j:Int) < (ns:Int):=by omega
       obtain rfl:j=ns:=by omega
       rw [List.take_of_length_le (Nat.le_of_eq HNS.out)] at TR
       have hfit:∀ a∈([.s ld.1,.n (j:Int)]++ld.2.1.map Sx.Av.s:List Sx.Av),a.fit:=fun a ha=>by
        rcases List.mem_append.1 ha with ha | ha
        ·simp only [List.mem_cons,List.not_mem_nil,or_false] at ha
         rcases ha with rfl | rfl
         ·exact (show ld.1.size≤100 by omega)
         ·exact (show -1000000000≤(j:Int)∧(j:Int)≤1000000000 by omega)
        ·obtain ⟨s,hs,rfl⟩:=List.mem_map.1 ha
         exact Nat.le_trans (HLB.out.s s hs) (by decide)
       have hfl:([.s ld.1,.n (j:Int)]++ld.2.1.map Sx.Av.s:List Sx.Av).length=2+j:=by rw [aK,List.length_map,HNS.out];rfl
       obtain ⟨A5,c5,hv,hc1,hc2,hF⟩:=TR.out.freeze (α:=Sx.Av) (l:=[.s ld.1,.n (j:Int)]++ld.2.1.map Sx.Av.s) rfl hfl.symm (flat_avs hfit) (fun g hg=>by cases hg)
       injection hv with hv1 hv2 hv3
       subst hv1 hv3
       have CL:=aI (line_any ⟨#[108,105,102,101]⟩ ([.s ld.1,.n (j:Int)]++ld.2.1.map Sx.Av.s) A4 c4 wi ((hF.fact (.head _)).sub (fun g hg=>by cases hg)) (fun a ha=>(hfit a ha).ok) (by rw [hfl];omega) (by decide) (HE.out.to (T.out.bl.trans (TR.out.h.bl.mono T.out.bl.size))).t)
       rw [hfl,show (Sx.bs ⟨#[108,105,102,101]⟩::([.s ld.1,.n (j:Int)]++ld.2.1.map Sx.Av.s:List Sx.Av).map Sx.Av.t)=(Sx.sLife::Sx.bs ld.1::Sx.num (j:Int)::ld.2.1.map Sx.bs) by rw [List.map_append,List.map_map];rfl] at CL
       have HR0:=aI (show acc++((Sx.sLife::Sx.bs ld.1::Sx.num (j:Int)::ld.2.1.map Sx.bs)::((ld.2.2.map fun m=>[Sx.sMove,Sx.num m.1,Sx.num m.2])++((x.2.2.1.drop (k+1)).flatMap Sx.lifL++RR))).flatMap Sx.lineT=S by rw [← HR.out,← HNS.out];rfl)
       obtain ⟨L9,hL9⟩:∃ l:List Sx.Txt,(Sx.sLife::Sx.bs ld.1::Sx.num (j:Int)::ld.2.1.map Sx.bs)=l:=⟨_,rfl⟩
       rw [hL9] at CL HR0
       obtain ⟨d9,hd9⟩:∃ d:ByteArray,(⟨(Sx.lineT L9).toArray⟩:ByteArray)=d:=⟨_,rfl⟩
       rw [hd9] at CL
       have HD9:=aI (show d9.data.toList=Sx.lineT L9 by rw [← hd9])
       have HR1:=aI (Sx.src_step HR0.out)
       have hds:acc.length+d9.size≤1000000:=by
        have h:=Sx.src_le HR1.out
        rw [aK,← HD9.out,strLen] at h
        omega
       replace T:=aI (T.out.below TR.out.h.bl)
       obtain ⟨n9,hn9⟩:∃ n,2+j=n:=⟨_,rfl⟩
       rw [hn9] at CL ⊢
       clear hd9 HR0 hL9 hF hc1 hc2 hfit hfl hn9 TR
       go_upto_region 23 with (first | (go_at_call 104;((with_reducible refine (CL.out).mono ?_));rintro e w2 ⟨rfl,hb2⟩;replace T:=aI (T.out.below hb2);clear hb2) | (go_at_call 103;((with_reducible refine (writeString_any d9 T.out (by omega)).mono ?_));rintro e w3 ⟨rfl,M3,hT3,_⟩;replace T:=aI hT3;clear hT3))
       rw [HD9.out] at T
       obtain ⟨R2,hR2⟩:∃ R,(x.2.2.1.drop (k+1)).flatMap Sx.lifL++RR=R:=⟨_,rfl⟩
       rw [hR2] at HR1
       have HR2:=aI hR2
       generalize acc++Sx.lineT L9=acc1 at *
       have z2:=(T.out.box (.head _)).cell 2
       simp at z2
       replace T:=aI T.out.rest
       clear HD9 CL hR2 hds
       go_wp2_with fail
       clear z2
       go_loopg [88] nm (fun r i wr=>∃ (j:Nat) (acc:Sx.Txt) (M:List Nat),j+r=nm∧i=.int .i64 j∧acc++(((ld.2.2.drop j).map fun m=>[Sx.sMove,Sx.num m.1,Sx.num m.2])++R2).flatMap Sx.lineT=S∧Bld w1 [] M [] ((fun M W=>SlAt M W As ld.2.1)::(fun M W=>SlAt M W Am ld.2.2)::[fun M W=>N∉M∧Blk W N 28 #[.int .i64 x.1,.slice A nk c,.slice (some ⟨b,o,none⟩) nl d,.slice C nr e],fun M W=>SlAt M W A (Sc.kinds x),fun M W=>SlAt M W (some ⟨b,o,none⟩) x.2.2.1,fun M W=>SlAt M W C x.2.2.2]) Nb acc wr)
       case atStart=>exact ⟨0,acc1,_,by omega,rfl,HR1.out,T.out⟩
       case round =>
        clear HR1 T
        obtain ⟨j,acc,M,hj,rfl,hacc,hT⟩:=hrel
        obtain ⟨wi,rfl⟩:∃ wo:World,wo=wr:=⟨_,rfl⟩
        have T:=aI hT
        clear hT
        by_cases hlt2:j < nm
        ·have hjp:j < ld.2.2.length:=by rw [HNM.out];exact hlt2
         have j0:(0:Int)≤(j:Int):=Int.natCast_nonneg _
         have j1:(j:Int) < (nm:Int):=by omega
         have HR:=aI hacc
         rw [List.drop_eq_getElem_cons hjp,List.map_cons,List.cons_append] at HR
         have mb:=HLB.out.v _ (List.getElem_mem hjp)
         obtain ⟨b2,o2,us,rfl,_,hr,hc⟩:=(T.out.fact (.tail _ (.head _))).get j hjp
         obtain ⟨md,hmd⟩:∃ z,ld.2.2[j]=z:=⟨_,rfl⟩
         rw [hmd] at HR mb hr
         obtain ⟨rfl,_⟩:=rep_mv hr
         rw [show Mem.sz (Int × Int)=2 from rfl] at hc
         have c0:wi.cell? ⟨b2,o2+j*2,none⟩=some (.int .i64 md.1):=hc 0 _ rfl
         have c1:wi.cell? ⟨b2,o2+j*2+1,none⟩=some (.int .i64 md.2):=hc 1 _ rfl
         obtain ⟨Nm,hNm⟩:∃ n,wi.heap.size=n:=⟨_,rfl⟩
         replace T:=aI (T.out.newBox #[.int .i64 md.1,.int .i64 md.2] 56 hNm)
         clear hacc hmd hr hc
         go_upto_region 26 with fail
         generalize wi.alloc (.cells #[.int .i64 md.1,.int .i64 md.2] 56)=w6 at *
         clear hNm c0 c1
         have hbk:=T.out.box (.head _)
         have z0:=hbk.cell 0;have z1:=hbk.cell 1
         simp at z0 z1
         clear hbk
         have HFT:=aI (show ∀ a∈([.n md.1,.n md.2]:List Sx.Av),a.fit by
          intro a ha
          simp only [List.mem_cons,List.not_mem_nil,or_false] at ha
          rcases ha with rfl | rfl
          ·exact (show -1000000000≤md.1∧md.1≤1000000000 by omega)
          ·exact (show -1000000000≤md.2∧md.2≤1000000000 by omega))
         have CL:=aI (fun (W:World) (hb:Below w1.heap.size w1 W)=>show Calls Tryz.prog 104 #[.string ⟨#[109,111,118,101]⟩,.slice (some ⟨W.heap.size,0,none⟩) 2 2] (W.alloc (.cells #[.iface 3 (.int .i64 md.1),.iface 3 (.int .i64 md.2)] 20)) fun e w'=>e=.returned (.string ⟨(Sx.lineT [Sx.sMove,Sx.num md.1,Sx.num md.2]).toArray⟩)∧Below W.heap.size W w' from line_new ⟨#[109,111,118,101]⟩ [.n md.1,.n md.2] W HFT.out (Nat.le_of_ble_eq_true rfl) (by decide) (HE.out.t.below hb HE.out.t.sz))
         obtain ⟨d9,hd9⟩:∃ d:ByteArray,(⟨(Sx.lineT [Sx.sMove,Sx.num md.1,Sx.num md.2]).toArray⟩:ByteArray)=d:=⟨_,rfl⟩
         rw [hd9] at CL
         have HD9:=aI (show d9.data.toList=Sx.lineT [Sx.sMove,Sx.num md.1,Sx.num md.2] by rw [← hd9])
         have HR1:=aI (Sx.src_step (l:=[Sx.sMove,Sx.num md.1,Sx.num md.2]) HR.out)
         have hds:acc.length+d9.size≤1000000:=by
          have h:=Sx.src_le HR1.out
          rw [aK,← HD9.out,strLen] at h
          omega
         clear hd9 HFT HR
         go_wp2_with (first | (go_at_call 104;((with_reducible refine (CL.out _ T.out.bl).mono ?_));rintro e w2 ⟨rfl,hb2⟩;replace T:=aI (T.out.below hb2);clear hb2 z0 z1) | (go_at_call 103;((with_reducible refine (writeString_any d9 T.out (by omega)).mono ?_));rintro e w3 ⟨rfl,M3,hT3,_⟩;replace T:=aI hT3;clear hT3))
         rw [HD9.out] at T
         go_roundg (gk - 1)
         case measure=>omega
         case rel=>exact ⟨j+1,_,_,by omega,by go_num,HR1.out,T.out.rest⟩
        ·have j1:¬ (j:Int) < (nm:Int):=by omega
         rw [List.drop_eq_nil_of_le (by rw [HNM.out];omega),List.map_nil,List.nil_append,← HR2.out] at hacc
         have HR:=aI hacc
         clear hacc
         go_wp2_with fail
         go_roundg (gq - 1)
         case measure=>omega
         case rel=>exact ⟨k+1,_,_,by omega,by go_num,HR.out,T.out.ltail.ltail⟩
    ·have k1:¬ (k:Int) < (nl:Int):=by omega
     rw [List.drop_eq_nil_of_le (by rw [HNL.out];omega),List.flatMap_nil,List.nil_append] at hacc
     rw [← HRR.out,← List.append_nil (x.2.2.2.map Sx.rulL)] at hacc
     have HR:=aI hacc
     clear hacc
     have hbk:=(T.out.fact (.head _)).2
     have z3:=hbk.cell 3
     simp at z3
     clear hbk
     go_wp2_with fail
     clear z3 k1 hlt hk
     go_loopg [106] nr (fun r i wr=>∃ (k:Nat) (acc:Sx.Txt) (M:List Nat),k+r=nr∧i=.int .i64 k∧acc++((x.2.2.2.drop k).map Sx.rulL++[]).flatMap Sx.lineT=S∧Bld w1 [] M [] [fun M W=>N∉M∧Blk W N 28 #[.int .i64 x.1,.slice A nk c,.slice B nl d,.slice C nr e],fun M W=>SlAt M W A (Sc.kinds x),fun M W=>SlAt M W B x.2.2.1,fun M W=>SlAt M W C x.2.2.2] Nb acc wr)
     case atStart=>exact ⟨0,acc,_,by omega,rfl,HR.out,T.out⟩
     case round =>
      clear HR T
      obtain ⟨k,acc,M,hk,rfl,hacc,hT⟩:=hrel
      obtain ⟨wo,rfl⟩:∃ wo:World,wo=wr:=⟨_,rfl⟩
      have T:=aI hT
      clear hT
      by_cases hlt:k < nr
      ·have hkp:k < x.2.2.2.length:=by rw [HNR.out];exact hlt
       have k0:(0:Int)≤(k:Int):=Int.natCast_nonneg _
       have k1:(k:Int) < (nr:Int):=by omega
       have HR:=aI hacc
       rw [List.drop_eq_getElem_cons hkp,List.map_cons,List.cons_append] at HR
       have rb:=HOB.out.r _ (List.getElem_mem hkp)
       obtain ⟨b,o,us,rfl,_,hr,hc⟩:=(T.out.fact (.tail _ (.tail _ (.tail _ (.head _))))).get k hkp
       obtain ⟨rd,hrd⟩:∃ z,x.2.2.2[k]=z:=⟨_,rfl⟩
       rw [hrd] at HR rb hr
       obtain ⟨rfl,_⟩:=rep_rul hr
       rw [show Mem.sz Rul=5 from rfl] at hc
       have c0:wo.cell? ⟨b,o+k*5,none⟩=some (.string rd.1):=hc 0 _ rfl
       have c1:wo.cell? ⟨b,o+k*5+1,none⟩=some (.string rd.2.1):=hc 1 _ rfl
       have c2:wo.cell? ⟨b,o+k*5+2,none⟩=some (.string rd.2.2.1):=hc 2 _ rfl
       have c3:wo.cell? ⟨b,o+k*5+3,none⟩=some (.string rd.2.2.2.1):=hc 3 _ rfl
       have c4:wo.cell? ⟨b,o+k*5+4,none⟩=some (.int .i64 rd.2.2.2.2):=hc 4 _ rfl
       obtain ⟨Nr,hNr⟩:∃ n,wo.heap.size=n:=⟨_,rfl⟩
       replace T:=aI (T.out.newBox #[.string rd.1,.string rd.2.1,.string rd.2.2.1,.string rd.2.2.2.1,.int .i64 rd.2.2.2.2] 58 hNr)
       have hq1:=rb.nm;have hq2:=rb.k;have hq3:=rb.a;have hq4:=rb.b;have hq5:=rb.n
       clear hacc hrd rb hr hc
       go_upto_region 32 with fail
       generalize wo.alloc (.cells #[.string rd.1,.string rd.2.1,.string rd.2.2.1,.string rd.2.2.2.1,.int .i64 rd.2.2.2.2] 58)=w5 at *
       clear hNr c0 c1 c2 c3 c4
       have HFT:=aI (show ∀ a∈([.s rd.1,.s rd.2.1,.s (Sx.orN rd.2.2.1),.s (Sx.orN rd.2.2.2.1),.n rd.2.2.2.2]:List Sx.Av),a.fit by
        intro a ha
        simp only [List.mem_cons,List.not_mem_nil,or_false] at ha
        rcases ha with rfl | rfl | rfl | rfl | rfl
        ·exact (show ByteArray.size rd.1≤100 by omega)
        ·exact (show ByteArray.size rd.2.1≤100 by omega)
        ·exact (show ByteArray.size (Sx.orN rd.2.2.1)≤100 from Sx.orN_sz (by omega) (by decide))
        ·exact (show ByteArray.size (Sx.orN rd.2.2.2.1)≤100 from Sx.orN_sz (by omega) (by decide))
        ·exact (show -1000000000≤rd.2.2.2.2∧rd.2.2.2.2≤1000000000 by omega))
       have HRL:=aI (show (Sx.bs ⟨#[114,117,108,101]⟩::([.s rd.1,.s rd.2.1,.s (Sx.orN rd.2.2.1),.s (Sx.orN rd.2.2.2.1),.n rd.2.2.2.2]:List Sx.Av).map Sx.Av.t)=Sx.rulL rd by
        show [_,_,_,Sx.bs (Sx.orN rd.2.2.1),Sx.bs (Sx.orN rd.2.2.2.1),_]=_
        rw [Sx.orN_list,Sx.orN_list];rfl)
       have CL:=aI (fun (g:Nat) (W:World) (hB:Blk W g 20 #[.iface 9 (.string rd.1),.iface 9 (.string rd.2.1),.iface 9 (.string (Sx.orN rd.2.2.1)),.iface 9 (.string (Sx.orN rd.2.2.2.1)),.iface 3 (.int .i64 rd.2.2.2.2)]) (hb:Below w1.heap.size w1 W)=>show Calls Tryz.prog 104 #[.string ⟨#[114,117,108,101]⟩,.slice (some ⟨g,0,none⟩) 5 5] W fun e w'=>e=.returned (.string ⟨(Sx.lineT (Sx.bs ⟨#[114,117,108,101]⟩::([.s rd.1,.s rd.2.1,.s (Sx.orN rd.2.2.1),.s (Sx.orN rd.2.2.2.1),.n rd.2.2.2.2]:List Sx.Av).map Sx.Av.t)).toArray⟩)∧Below W.heap.size W w' from line_any ⟨#[114,117,108,101]⟩ [.s rd.1,.s rd.2.1,.s (Sx.orN rd.2.2.1),.s (Sx.orN rd.2.2.2.1),.n rd.2.2.2.2] (some ⟨g,0,none⟩) 5 W (SlAt.of_blk (flat_avs HFT.out) hB (by simp)) (fun a ha=>(HFT.out a ha).ok) (Nat.le_of_ble_eq_true rfl) (by decide) (HE.out.to hb).t)
       rw [HRL.out] at CL
       have CN1:=aI (fun w=>named_any rd.2.2.1 w)
       have CN2:=aI (fun w=>named_any rd.2.2.2.1 w)
       obtain ⟨d9,hd9⟩:∃ d:ByteArray,(⟨(Sx.lineT (Sx.rulL rd)).toArray⟩:ByteArray)=d:=⟨_,rfl⟩
       rw [hd9] at CL
       have HD9:=aI (show d9.data.toList=Sx.lineT (Sx.rulL rd) by rw [← hd9])
       have HR1:=aI (Sx.src_step HR.out)
       have hds:acc.length+d9.size≤1000000:=by
        have h:=Sx.src_le HR1.out
        rw [aK,← HD9.out,strLen] at h
        omega
       have HBK:=aI (T.out.box (.head _))
       clear hd9 HR HFT HRL
       go_wp2_with fail
       apply wp_region_typed (C:=fun w'=>Below w5.heap.size w5 w') (n:=132) (m:=19) (l1:=[_,_,_,_,_,_,_,_,_,_,_,_,_,_,_,_,_,_,_]) (l2:=[_])
       ·rfl
       ·rfl
       ·kernel_rfl
       ·rfl
       ·kernel_rfl
       ·exact ⟨rfl,rfl,rfl,Nat.le_refl _,fun _ _=>rfl⟩
       ·exact fun u u' h hb=>(by first | exact h.below hb | exact h.trans (hb.mono h.size))
       iterate 8 ((apply wpT_exact;· (intro w' hC hf;unfold Gives;have hbk:=HBK.out.below hC HBK.out.lt;have c0:=hbk.cell 0;have c1:=hbk.cell 1;have c2:=hbk.cell 2;have c3:=hbk.cell 3;have c4:=hbk.cell 4;simp at c0 c1 c2 c3 c4;clear hbk;clear hf hC;go_wp2_with (fail);apply postT_val rfl (Below.refl _ _);simp only [valAt,aA,aE,aC,aD,aH];exact rfl));(try simp only [Act.put,aB,aF,aG]))
       (apply wpT_exact;· (intro w' hC hf;unfold Gives;clear hf hC;go_wp2_with (go_at_call 106;((with_reducible refine (CN1.out _).mono ?_));rintro e w2 ⟨rfl,hb2⟩);apply postT_val rfl (by assumption);simp only [valAt,aA,aE,aC,aD,aH];exact rfl));(try simp only [Act.put,aB,aF,aG])
       iterate 3 ((apply wpT_exact;· (intro w' hC hf;unfold Gives;have hbk:=HBK.out.below hC HBK.out.lt;have c0:=hbk.cell 0;have c1:=hbk.cell 1;have c2:=hbk.cell 2;have c3:=hbk.cell 3;have c4:=hbk.cell 4;simp at c0 c1 c2 c3 c4;clear hbk;clear hf hC;go_wp2_with (fail);apply postT_val rfl (Below.refl _ _);simp only [valAt,aA,aE,aC,aD,aH];exact rfl));(try simp only [Act.put,aB,aF,aG]))
       (apply wpT_exact;· (intro w' hC hf;unfold Gives;clear hf hC;go_wp2_with (go_at_call 106;((with_reducible refine (CN2.out _).mono ?_));rintro e w2 ⟨rfl,hb2⟩);apply postT_val rfl (by assumption);simp only [valAt,aA,aE,aC,aD,aH];exact rfl));(try simp only [Act.put,aB,aF,aG])
       iterate 4 ((apply wpT_exact;· (intro w' hC hf;unfold Gives;have hbk:=HBK.out.below hC HBK.out.lt;have c0:=hbk.cell 0;have c1:=hbk.cell 1;have c2:=hbk.cell 2;have c3:=hbk.cell 3;have c4:=hbk.cell 4;simp at c0 c1 c2 c3 c4;clear hbk;clear hf hC;go_wp2_with (fail);apply postT_val rfl (Below.refl _ _);simp only [valAt,aA,aE,aC,aD,aH];exact rfl));(try simp only [Act.put,aB,aF,aG]))
       apply wpT_typed (slBlk_kept 5 20 #[.iface 9 (.string rd.1),.iface 9 (.string rd.2.1),.iface 9 (.string (Sx.orN rd.2.2.1)),.iface 9 (.string (Sx.orN rd.2.2.2.1)),.iface 3 (.int .i64 rd.2.2.2.2)])
       ·intro w' hC hf;unfold Gives;clear hf hC;go_wp2_with fail;apply postT_mk rfl (by go_grown);simp only [valAt,aA,aE,aC,aD,aH];exact ⟨_,rfl,Blk.new _ _ _⟩
       intro vsl;(try simp only [Act.put,aB,aF,aG])
       (apply wpT_exact;· (intro w' hC hf;unfold Gives;obtain ⟨g,rfl,hB⟩:=hf.1 rfl;have CQ:=aI (CL.out g w' hB (T.out.bl.trans (hC.mono T.out.bl.size)));clear hf hC hB;go_wp2_with (go_at_call 104;((with_reducible refine (CQ.out).mono ?_));rintro e w2 ⟨rfl,hb2⟩);apply postT_val rfl (by assumption);simp only [valAt,aA,aE,aC,aD,aH];exact rfl));(try simp only [Act.put,aB,aF,aG])
       apply wpT_done
       intro w8 hC _
       replace T:=aI (T.out.below hC)
       clear hC
       go_wp2_with (go_at_call 103;((with_reducible refine (writeString_any d9 T.out (by omega)).mono ?_));rintro e w3 ⟨rfl,M3,hT3,_⟩;replace T:=aI hT3;clear hT3)
       rw [HD9.out] at T
       go_roundg (gk - 1)
       case measure=>omega
       case rel=>exact ⟨k+1,_,_,by omega,by go_num,HR1.out,T.out.rest⟩
      ·have k1:¬ (k:Int) < (nr:Int):=by omega
       rw [List.drop_eq_nil_of_le (by rw [HNR.out];omega),List.map_nil,List.nil_append,List.flatMap_nil,List.append_nil] at hacc
       subst hacc
       go_wp2_with (go_at_call 107;((with_reducible refine (bldString_any T.out).mono ?_));rintro e w8 ⟨rfl,hb8⟩;have HBO:=aI (HB.out.trans ((T.out.bl.trans hb8).mono HB.out.size));clear hb8)
       go_ret
       exact ⟨by rw [HS.out];rfl,HBO.out⟩
end Go.Proofs.YtmplaikgbeeikaaGreatDoor
