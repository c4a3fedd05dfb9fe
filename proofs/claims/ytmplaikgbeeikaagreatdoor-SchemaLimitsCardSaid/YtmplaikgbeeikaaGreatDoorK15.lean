/- Parts of the proof, joined: SxV6, SxLaw7, SxP9, SxE1, SxV7, SxE2, SxDec, SxS1. -/
import Derived.Test.YtmplaikgbeeikaaGreatDoorK2
import Derived.Test.YtmplaikgbeeikaaGreatDoorK6
import Derived.Test.YtmplaikgbeeikaaGreatDoorK11
import Derived.Test.YtmplaikgbeeikaaGreatDoorK12
import Derived.Test.YtmplaikgbeeikaaGreatDoorK13
import Derived.Test.YtmplaikgbeeikaaGreatDoorK14
set_option linter.unusedVariables false
set_option linter.unusedSimpArgs false
set_option linter.unusedSectionVars false
namespace Go.Proofs.YtmplaikgbeeikaaGreatDoor
open Go Go.RowKit
structure Sx.Sz (x:Sch):Prop where
 k:∀ k∈Sc.kinds x,(Sc.flds k).length≤1000000∧∀ f∈Sc.flds k,(Sc.wts f).length≤1000000
 l:∀ l∈x.2.2.1,l.2.1.length≤1000000∧l.2.2.length≤1000000
 r:∀ r∈x.2.2.2,r.2.2.1.size+r.2.2.2.1.size≤9223372036854775807
theorem okB_eq (x:Sch):Sx.okB x=(Sx.within x.1 0 1048576 && (decide ((Sc.kinds x).length≤6) && (decide (x.2.2.1.length≤6) && (decide (x.2.2.2.length≤16) && ((Sc.kinds x).all Sx.kndB && (x.2.2.1.all Sx.lifB && x.2.2.2.all Sx.rulB)))))):=rfl
set_option maxRecDepth 100000 in
set_option maxHeartbeats 16000000 in
theorem valid_any (x:Sch) (us:List Value) (w:World) (h:Mem.rep [] w x us) (hz:Sx.Sz x) (he:SEnv w):Calls Tryz.prog 21 #[.agg us.toArray] w fun e w'=>e=.returned (.int .i64 (Sx.valid x))∧Below w.heap.size w w':=by
 obtain ⟨A,c,B,d,C,e,rfl,s1,s2,s3,a1,b1,b2,b3,b4,b5,b6⟩:=rep_sch h
 obtain ⟨nk,hk⟩:∃ n,(Sc.kinds x).length=n:=⟨_,rfl⟩
 obtain ⟨nl,hl⟩:∃ n,x.2.2.1.length=n:=⟨_,rfl⟩
 obtain ⟨nr,hr⟩:∃ n,x.2.2.2.length=n:=⟨_,rfl⟩
 obtain ⟨q1,h1⟩:∃ b,Sx.within x.1 0 1048576=b:=⟨_,rfl⟩
 obtain ⟨q5,h5⟩:∃ b,(Sc.kinds x).all Sx.kndB=b:=⟨_,rfl⟩
 obtain ⟨q6,h6⟩:∃ b,x.2.2.1.all Sx.lifB=b:=⟨_,rfl⟩
 obtain ⟨q7,h7⟩:∃ b,x.2.2.2.all Sx.rulB=b:=⟨_,rfl⟩
 have C1:=within_any x.1 0 1048576
 rw [h1] at C1
 replace C1:=aI C1
 have C5:=fun (W:World) (hs:SlAt [] W A (Sc.kinds x))=>allK_any (Sc.kinds x) A c W hs (by omega) hz.k
 have C6:=fun (W:World) (hs:SlAt [] W B x.2.2.1)=>allL_any x.2.2.1 B d W hs (by omega) hz.l
 have C7:=fun (W:World) (hs:SlAt [] W C x.2.2.2)=>allR_any x.2.2.2 C e W hs (by omega) hz.r
 rw [h5,hk] at C5
 rw [h6,hl] at C6
 rw [h7,hr] at C7
 unfold rtK at C5
 unfold rtL at C6
 unfold rtR at C7
 replace C5:=aI C5
 replace C6:=aI C6
 replace C7:=aI C7
 have HOK:=okB_eq x
 rw [h1,hk,hl,hr,h5,h6,h7] at HOK
 obtain ⟨S,hS⟩:∃ s,Sx.source x=s:=⟨_,rfl⟩
 have HV:Sx.valid x=if Sx.okB x=true then (if 8192 < S.length then 4 else 0) else 1:=by unfold Sx.valid;rw [hS]
 have hSl:Sx.okB x=true→S.length≤1000000:=fun h=>by rw [← hS];exact Sx.source_le (Sx.okB_bd h)
 have CSR:=aI (fun (W:World) (hr:Mem.rep [] W x [.int .i64 x.1,.slice A nk c,.slice B nl d,.slice C nr e]) (hok:Sx.okB x=true) (hb:Below w.heap.size w W)=>source_any x _ W hr hok (he.to hb))
 rw [hS] at CSR
 obtain ⟨N,hN⟩:∃ n,w.heap.size=n:=⟨_,rfl⟩
 obtain ⟨W0,hW0⟩:∃ X,w.alloc (.cells #[.int .i64 x.1,.slice A nk c,.slice B nl d,.slice C nr e] 28)=X:=⟨_,rfl⟩
 have hb0:Below w.heap.size w W0:=by rw [← hW0];exact (Below.refl w.heap.size w).alloc (Nat.le_refl _) _
 have hbk:Blk W0 N 28 #[.int .i64 x.1,.slice A nk c,.slice B nl d,.slice C nr e]:=by rw [← hW0,← hN];exact Blk.new w _ _
 rw [hk,hl,hr] at h
 have T:=aI ((((((held0 W0 [] (fun _ h=>by cases h)).add (keeps_rep x _) (Mem.keep h (Chg.of_below hb0))).add (keeps_sl C x.2.2.2) (s3.keep (Chg.of_below hb0))).add (keeps_sl B x.2.2.1) (s2.keep (Chg.of_below hb0))).add (keeps_sl A (Sc.kinds x)) (s1.keep (Chg.of_below hb0))).add (P:=fun M W=>N∉M∧Blk W N 28 #[.int .i64 x.1,.slice A nk c,.slice B nl d,.slice C nr e]) (keeps_blk _ _ _) ⟨by simp,hbk⟩)
 replace C5:=aI (fun (W:World) (hb:Below W0.heap.size W0 W)=>C5.out W ((T.out.below hb).fact (.tail _ (.head _))))
 replace C6:=aI (fun (W:World) (hb:Below W0.heap.size W0 W)=>C6.out W ((T.out.below hb).fact (.tail _ (.tail _ (.head _)))))
 replace C7:=aI (fun (W:World) (hb:Below W0.heap.size W0 W)=>C7.out W ((T.out.below hb).fact (.tail _ (.tail _ (.tail _ (.head _))))))
 replace CSR:=aI (fun (W:World) (hok:Sx.okB x=true) (hb:Below W0.heap.size W0 W)=>CSR.out W ((T.out.below hb).fact (.tail _ (.tail _ (.tail _ (.tail _ (.head _)))))) hok (hb0.trans (hb.mono hb0.size)))
 have HB:=aI hb0
 have HW0:=aI hW0
 show Calls Tryz.prog 21 #[.agg #[.int .i64 x.1,.slice A (Sc.kinds x).length c,.slice B x.2.2.1.length d,.slice C x.2.2.2.length e]] w _
 obtain ⟨vv,hvv⟩:∃ z,Sx.valid x=z:=⟨_,rfl⟩
 rw [hvv] at HV ⊢
 rw [hk,hl,hr]
 have HVV:=aI HV
 clear h s1 s2 s3 a1 b1 b2 b3 b4 b5 b6 hk hl hr hbk hb0 hW0 h1 h5 h6 h7 HV hS he hz hvv
 have hbk:=(T.out.fact (.head _)).2;have z0:=hbk.cell 0;have z1:=hbk.cell 1;have z2:=hbk.cell 2;have z3:=hbk.cell 3;simp at z0 z1 z2 z3;clear hbk
 have HN:=aI hN
 clear hN
 go_enter Tryz.func21,Tryz.ntmps21
 go_upto_region 1 with fail
 rw [HW0.out,HN.out]
 cases q1
 ·(try simp only [Bool.false_and,Bool.true_and] at HOK)
  have HOK:=aI HOK
  go_wp2_with (first | (go_at_call 52;((with_reducible refine (C1.out _).mono ?_));rintro e w2 ⟨rfl,rfl⟩) | (go_at_call 53;((with_reducible refine (C5.out _ T.out.bl).mono ?_));rintro e w2 ⟨rfl,hb2⟩;replace T:=aI (T.out.below hb2);clear hb2 z0 z1 z2 z3;have hbk:=(T.out.fact (.head _)).2;have z0:=hbk.cell 0;have z1:=hbk.cell 1;have z2:=hbk.cell 2;have z3:=hbk.cell 3;simp at z0 z1 z2 z3;clear hbk) | (go_at_call 55;((with_reducible refine (C6.out _ T.out.bl).mono ?_));rintro e w2 ⟨rfl,hb2⟩;replace T:=aI (T.out.below hb2);clear hb2 z0 z1 z2 z3;have hbk:=(T.out.fact (.head _)).2;have z0:=hbk.cell 0;have z1:=hbk.cell 1;have z2:=hbk.cell 2;have z3:=hbk.cell 3;simp at z0 z1 z2 z3;clear hbk) | (go_at_call 57;((with_reducible refine (C7.out _ T.out.bl).mono ?_));rintro e w2 ⟨rfl,hb2⟩;replace T:=aI (T.out.below hb2);clear hb2 z0 z1 z2 z3;have hbk:=(T.out.fact (.head _)).2;have z0:=hbk.cell 0;have z1:=hbk.cell 1;have z2:=hbk.cell 2;have z3:=hbk.cell 3;simp at z0 z1 z2 z3;clear hbk))
  go_ret
  have ev:vv=1:=by rw [HVV.out,if_neg (by rw [HOK.out];simp)]
  exact ⟨by rw [ev];rfl,HB.out.trans (T.out.bl.mono HB.out.size)⟩
 ·(try simp only [Bool.true_and] at HOK)
  by_cases c2:nk≤6
  rotate_left
  ·rw [decide_eq_false c2] at HOK
   (try simp only [Bool.false_and,Bool.true_and] at HOK)
   have HOK:=aI HOK
   have t1:((6:Int) < (nk:Int)):=by omega
   have t2:decide ((6:Int) < (nk:Int))=true:=decide_eq_true (by omega)
   go_wp2_with (first | (go_at_call 52;((with_reducible refine (C1.out _).mono ?_));rintro e w2 ⟨rfl,rfl⟩) | (go_at_call 53;((with_reducible refine (C5.out _ T.out.bl).mono ?_));rintro e w2 ⟨rfl,hb2⟩;replace T:=aI (T.out.below hb2);clear hb2 z0 z1 z2 z3;have hbk:=(T.out.fact (.head _)).2;have z0:=hbk.cell 0;have z1:=hbk.cell 1;have z2:=hbk.cell 2;have z3:=hbk.cell 3;simp at z0 z1 z2 z3;clear hbk) | (go_at_call 55;((with_reducible refine (C6.out _ T.out.bl).mono ?_));rintro e w2 ⟨rfl,hb2⟩;replace T:=aI (T.out.below hb2);clear hb2 z0 z1 z2 z3;have hbk:=(T.out.fact (.head _)).2;have z0:=hbk.cell 0;have z1:=hbk.cell 1;have z2:=hbk.cell 2;have z3:=hbk.cell 3;simp at z0 z1 z2 z3;clear hbk) | (go_at_call 57;((with_reducible refine (C7.out _ T.out.bl).mono ?_));rintro e w2 ⟨rfl,hb2⟩;replace T:=aI (T.out.below hb2);clear hb2 z0 z1 z2 z3;have hbk:=(T.out.fact (.head _)).2;have z0:=hbk.cell 0;have z1:=hbk.cell 1;have z2:=hbk.cell 2;have z3:=hbk.cell 3;simp at z0 z1 z2 z3;clear hbk))
   go_ret
   have ev:vv=1:=by rw [HVV.out,if_neg (by rw [HOK.out];simp)]
   exact ⟨by rw [ev];rfl,HB.out.trans (T.out.bl.mono HB.out.size)⟩
  ·rw [decide_eq_true c2] at HOK
   (try simp only [Bool.true_and] at HOK)
   have t1c2:((nk:Int)≤(6:Int)):=by omega
   have t2c2:decide ((6:Int) < (nk:Int))=false:=decide_eq_false (by omega)
   by_cases c3:nl≤6
   rotate_left
   ·rw [decide_eq_false c3] at HOK
    (try simp only [Bool.false_and,Bool.true_and] at HOK)
    have HOK:=aI HOK
    have t1:((6:Int) < (nl:Int)):=by omega
    have t2:decide ((6:Int) < (nl:Int))=true:=decide_eq_true (by omega)
    go_wp2_with (first | (go_at_call 52;((with_reducible refine (C1.out _).mono ?_));rintro e w2 ⟨rfl,rfl⟩) | (go_at_call 53;((with_reducible refine (C5.out _ T.out.bl).mono ?_));rintro e w2 ⟨rfl,hb2⟩;replace T:=aI (T.out.below hb2);clear hb2 z0 z1 z2 z3;have hbk:=(T.out.fact (.head _)).2;have z0:=hbk.cell 0;have z1:=hbk.cell 1;have z2:=hbk.cell 2;have z3:=hbk.cell 3;simp at z0 z1 z2 z3;clear hbk) | (go_at_call 55;((with_reducible refine (C6.out _ T.out.bl).mono ?_));rintro e w2 ⟨rfl,hb2⟩;replace T:=aI (T.out.below hb2);clear hb2 z0 z1 z2 z3;have hbk:=(T.out.fact (.head _)).2;have z0:=hbk.cell 0;have z1:=hbk.cell 1;have z2:=hbk.cell 2;have z3:=hbk.cell 3;simp at z0 z1 z2 z3;clear hbk) | (go_at_call 57;((with_reducible refine (C7.out _ T.out.bl).mono ?_));rintro e w2 ⟨rfl,hb2⟩;replace T:=aI (T.out.below hb2);clear hb2 z0 z1 z2 z3;have hbk:=(T.out.fact (.head _)).2;have z0:=hbk.cell 0;have z1:=hbk.cell 1;have z2:=hbk.cell 2;have z3:=hbk.cell 3;simp at z0 z1 z2 z3;clear hbk))
    go_ret
    have ev:vv=1:=by rw [HVV.out,if_neg (by rw [HOK.out];simp)]
    exact ⟨by rw [ev];rfl,HB.out.trans (T.out.bl.mono HB.out.size)⟩
   ·rw [decide_eq_true c3] at HOK
    (try simp only [Bool.true_and] at HOK)
    have t1c3:((nl:Int)≤(6:Int)):=by omega
    have t2c3:decide ((6:Int) < (nl:Int))=false:=decide_eq_false (by omega)
    by_cases c4:nr≤16
    rotate_left
    ·rw [decide_eq_false c4] at HOK
     (try simp only [Bool.false_and,Bool.true_and] at HOK)
     have HOK:=aI HOK
     have t1:((16:Int) < (nr:Int)):=by omega
     have t2:decide ((16:Int) < (nr:Int))=true:=decide_eq_true (by omega)
     go_wp2_with (first | (go_at_call 52;((with_reducible refine (C1.out _).mono ?_));rintro e w2 ⟨rfl,rfl⟩) | (go_at_call 53;((with_reducible refine (C5.out _ T.out.bl).mono ?_));rintro e w2 ⟨rfl,hb2⟩;replace T:=aI (T.out.below hb2);clear hb2 z0 z1 z2 z3;have hbk:=(T.out.fact (.head _)).2;have z0:=hbk.cell 0;have z1:=hbk.cell 1;have z2:=hbk.cell 2;have z3:=hbk.cell 3;simp at z0 z1 z2 z3;clear hbk) | (go_at_call 55;((with_reducible refine (C6.out _ T.out.bl).mono ?_));rintro e w2 ⟨rfl,hb2⟩;replace T:=aI (T.out.below hb2);clear hb2 z0 z1 z2 z3;have hbk:=(T.out.fact (.head _)).2;have z0:=hbk.cell 0;have z1:=hbk.cell 1;have z2:=hbk.cell 2;have z3:=hbk.cell 3;simp at z0 z1 z2 z3;clear hbk) | (go_at_call 57;((with_reducible refine (C7.out _ T.out.bl).mono ?_));rintro e w2 ⟨rfl,hb2⟩;replace T:=aI (T.out.below hb2);clear hb2 z0 z1 z2 z3;have hbk:=(T.out.fact (.head _)).2;have z0:=hbk.cell 0;have z1:=hbk.cell 1;have z2:=hbk.cell 2;have z3:=hbk.cell 3;simp at z0 z1 z2 z3;clear hbk))
     go_ret
     have ev:vv=1:=by rw [HVV.out,if_neg (by rw [HOK.out];simp)]
     exact ⟨by rw [ev];rfl,HB.out.trans (T.out.bl.mono HB.out.size)⟩
    ·rw [decide_eq_true c4] at HOK
     (try simp only [Bool.true_and] at HOK)
     have t1c4:((nr:Int)≤(16:Int)):=by omega
     have t2c4:decide ((16:Int) < (nr:Int))=false:=decide_eq_false (by omega)
     cases q5
     ·(try simp only [Bool.false_and,Bool.true_and] at HOK)
      have HOK:=aI HOK
      go_wp2_with (first | (go_at_call 52;((with_reducible refine (C1.out _).mono ?_));rintro e w2 ⟨rfl,rfl⟩) | (go_at_call 53;((with_reducible refine (C5.out _ T.out.bl).mono ?_));rintro e w2 ⟨rfl,hb2⟩;replace T:=aI (T.out.below hb2);clear hb2 z0 z1 z2 z3;have hbk:=(T.out.fact (.head _)).2;have z0:=hbk.cell 0;have z1:=hbk.cell 1;have z2:=hbk.cell 2;have z3:=hbk.cell 3;simp at z0 z1 z2 z3;clear hbk) | (go_at_call 55;((with_reducible refine (C6.out _ T.out.bl).mono ?_));rintro e w2 ⟨rfl,hb2⟩;replace T:=aI (T.out.below hb2);clear hb2 z0 z1 z2 z3;have hbk:=(T.out.fact (.head _)).2;have z0:=hbk.cell 0;have z1:=hbk.cell 1;have z2:=hbk.cell 2;have z3:=hbk.cell 3;simp at z0 z1 z2 z3;clear hbk) | (go_at_call 57;((with_reducible refine (C7.out _ T.out.bl).mono ?_));rintro e w2 ⟨rfl,hb2⟩;replace T:=aI (T.out.below hb2);clear hb2 z0 z1 z2 z3;have hbk:=(T.out.fact (.head _)).2;have z0:=hbk.cell 0;have z1:=hbk.cell 1;have z2:=hbk.cell 2;have z3:=hbk.cell 3;simp at z0 z1 z2 z3;clear hbk))
      go_ret
      have ev:vv=1:=by rw [HVV.out,if_neg (by rw [HOK.out];simp)]
      exact ⟨by rw [ev];rfl,HB.out.trans (T.out.bl.mono HB.out.size)⟩
     ·(try simp only [Bool.true_and] at HOK)
      cases q6
      ·(try simp only [Bool.false_and,Bool.true_and] at HOK)
       have HOK:=aI HOK
       go_wp2_with (first | (go_at_call 52;((with_reducible refine (C1.out _).mono ?_));rintro e w2 ⟨rfl,rfl⟩) | (go_at_call 53;((with_reducible refine (C5.out _ T.out.bl).mono ?_));rintro e w2 ⟨rfl,hb2⟩;replace T:=aI (T.out.below hb2);clear hb2 z0 z1 z2 z3;have hbk:=(T.out.fact (.head _)).2;have z0:=hbk.cell 0;have z1:=hbk.cell 1;have z2:=hbk.cell 2;have z3:=hbk.cell 3;simp at z0 z1 z2 z3;clear hbk) | (go_at_call 55;((with_reducible refine (C6.out _ T.out.bl).mono ?_));rintro e w2 ⟨rfl,hb2⟩;replace T:=aI (T.out.below hb2);clear hb2 z0 z1 z2 z3;have hbk:=(T.out.fact (.head _)).2;have z0:=hbk.cell 0;have z1:=hbk.cell 1;have z2:=hbk.cell 2;have z3:=hbk.cell 3;simp at z0 z1 z2 z3;clear hbk) | (go_at_call 57;((with_reducible refine (C7.out _ T.out.bl).mono ?_));rintro e w2 ⟨rfl,hb2⟩;replace T:=aI (T.out.below hb2);clear hb2 z0 z1 z2 z3;have hbk:=(T.out.fact (.head _)).2;have z0:=hbk.cell 0;have z1:=hbk.cell 1;have z2:=hbk.cell 2;have z3:=hbk.cell 3;simp at z0 z1 z2 z3;clear hbk))
       go_ret
       have ev:vv=1:=by rw [HVV.out,if_neg (by rw [HOK.out];simp)]
       exact ⟨by rw [ev];rfl,HB.out.trans (T.out.bl.mono HB.out.size)⟩
      ·(try simp only [Bool.true_and] at HOK)
       cases q7
       ·(try simp only [Bool.false_and,Bool.true_and] at HOK)
        have HOK:=aI HOK
        go_wp2_with (first | (go_at_call 52;((with_reducible refine (C1.out _).mono ?_));rintro e w2 ⟨rfl,rfl⟩) | (go_at_call 53;((with_reducible refine (C5.out _ T.out.bl).mono ?_));rintro e w2 ⟨rfl,hb2⟩;replace T:=aI (T.out.below hb2);clear hb2 z0 z1 z2 z3;have hbk:=(T.out.fact (.head _)).2;have z0:=hbk.cell 0;have z1:=hbk.cell 1;have z2:=hbk.cell 2;have z3:=hbk.cell 3;simp at z0 z1 z2 z3;clear hbk) | (go_at_call 55;((with_reducible refine (C6.out _ T.out.bl).mono ?_));rintro e w2 ⟨rfl,hb2⟩;replace T:=aI (T.out.below hb2);clear hb2 z0 z1 z2 z3;have hbk:=(T.out.fact (.head _)).2;have z0:=hbk.cell 0;have z1:=hbk.cell 1;have z2:=hbk.cell 2;have z3:=hbk.cell 3;simp at z0 z1 z2 z3;clear hbk) | (go_at_call 57;((with_reducible refine (C7.out _ T.out.bl).mono ?_));rintro e w2 ⟨rfl,hb2⟩;replace T:=aI (T.out.below hb2);clear hb2 z0 z1 z2 z3;have hbk:=(T.out.fact (.head _)).2;have z0:=hbk.cell 0;have z1:=hbk.cell 1;have z2:=hbk.cell 2;have z3:=hbk.cell 3;simp at z0 z1 z2 z3;clear hbk))
        go_ret
        have ev:vv=1:=by rw [HVV.out,if_neg (by rw [HOK.out];simp)]
        exact ⟨by rw [ev];rfl,HB.out.trans (T.out.bl.mono HB.out.size)⟩
       ·(try simp only [Bool.true_and] at HOK)
        have hok:Sx.okB x=true:=HOK
        have HOK:=aI hok
        have hSl2:=hSl hok
        clear hok hSl
        obtain ⟨d9,hd9⟩:∃ d:ByteArray,(⟨S.toArray⟩:ByteArray)=d:=⟨_,rfl⟩
        rw [hd9] at CSR
        have hds:d9.size=S.length:=by rw [← hd9];show S.toArray.size=_;rw [List.size_toArray]
        clear hd9
        by_cases hl:8192 < S.length
        ·have t3:(8192:Int) < (d9.size:Int):=by omega
         have t4:decide (8192 < d9.size)=true:=decide_eq_true (by omega)
         go_wp2_with (first | (go_at_call 52;((with_reducible refine (C1.out _).mono ?_));rintro e w2 ⟨rfl,rfl⟩) | (go_at_call 53;((with_reducible refine (C5.out _ T.out.bl).mono ?_));rintro e w2 ⟨rfl,hb2⟩;replace T:=aI (T.out.below hb2);clear hb2 z0 z1 z2 z3;have hbk:=(T.out.fact (.head _)).2;have z0:=hbk.cell 0;have z1:=hbk.cell 1;have z2:=hbk.cell 2;have z3:=hbk.cell 3;simp at z0 z1 z2 z3;clear hbk) | (go_at_call 55;((with_reducible refine (C6.out _ T.out.bl).mono ?_));rintro e w2 ⟨rfl,hb2⟩;replace T:=aI (T.out.below hb2);clear hb2 z0 z1 z2 z3;have hbk:=(T.out.fact (.head _)).2;have z0:=hbk.cell 0;have z1:=hbk.cell 1;have z2:=hbk.cell 2;have z3:=hbk.cell 3;simp at z0 z1 z2 z3;clear hbk) | (go_at_call 57;((with_reducible refine (C7.out _ T.out.bl).mono ?_));rintro e w2 ⟨rfl,hb2⟩;replace T:=aI (T.out.below hb2);clear hb2 z0 z1 z2 z3;have hbk:=(T.out.fact (.head _)).2;have z0:=hbk.cell 0;have z1:=hbk.cell 1;have z2:=hbk.cell 2;have z3:=hbk.cell 3;simp at z0 z1 z2 z3;clear hbk) | (go_at_call 51;((with_reducible refine (CSR.out _ HOK.out T.out.bl).mono ?_));rintro e w2 ⟨rfl,hb2⟩;replace T:=aI (T.out.below hb2);clear hb2 z0 z1 z2 z3;have hbk:=(T.out.fact (.head _)).2;have z0:=hbk.cell 0;have z1:=hbk.cell 1;have z2:=hbk.cell 2;have z3:=hbk.cell 3;simp at z0 z1 z2 z3;clear hbk))
         go_ret
         have ev:vv=4:=by rw [HVV.out,if_pos HOK.out,if_pos hl]
         exact ⟨by rw [ev];rfl,HB.out.trans (T.out.bl.mono HB.out.size)⟩
        ·have t3:(d9.size:Int)≤(8192:Int):=by omega
         have t4:decide (8192 < d9.size)=false:=decide_eq_false (by omega)
         go_wp2_with (first | (go_at_call 52;((with_reducible refine (C1.out _).mono ?_));rintro e w2 ⟨rfl,rfl⟩) | (go_at_call 53;((with_reducible refine (C5.out _ T.out.bl).mono ?_));rintro e w2 ⟨rfl,hb2⟩;replace T:=aI (T.out.below hb2);clear hb2 z0 z1 z2 z3;have hbk:=(T.out.fact (.head _)).2;have z0:=hbk.cell 0;have z1:=hbk.cell 1;have z2:=hbk.cell 2;have z3:=hbk.cell 3;simp at z0 z1 z2 z3;clear hbk) | (go_at_call 55;((with_reducible refine (C6.out _ T.out.bl).mono ?_));rintro e w2 ⟨rfl,hb2⟩;replace T:=aI (T.out.below hb2);clear hb2 z0 z1 z2 z3;have hbk:=(T.out.fact (.head _)).2;have z0:=hbk.cell 0;have z1:=hbk.cell 1;have z2:=hbk.cell 2;have z3:=hbk.cell 3;simp at z0 z1 z2 z3;clear hbk) | (go_at_call 57;((with_reducible refine (C7.out _ T.out.bl).mono ?_));rintro e w2 ⟨rfl,hb2⟩;replace T:=aI (T.out.below hb2);clear hb2 z0 z1 z2 z3;have hbk:=(T.out.fact (.head _)).2;have z0:=hbk.cell 0;have z1:=hbk.cell 1;have z2:=hbk.cell 2;have z3:=hbk.cell 3;simp at z0 z1 z2 z3;clear hbk) | (go_at_call 51;((with_reducible refine (CSR.out _ HOK.out T.out.bl).mono ?_));rintro e w2 ⟨rfl,hb2⟩;replace T:=aI (T.out.below hb2);clear hb2 z0 z1 z2 z3;have hbk:=(T.out.fact (.head _)).2;have z0:=hbk.cell 0;have z1:=hbk.cell 1;have z2:=hbk.cell 2;have z3:=hbk.cell 3;simp at z0 z1 z2 z3;clear hbk))
         go_ret
         have ev:vv=0:=by rw [HVV.out,if_pos HOK.out,if_neg hl]
         exact ⟨by rw [ev];rfl,HB.out.trans (T.out.bl.mono HB.out.size)⟩
end Go.Proofs.YtmplaikgbeeikaaGreatDoor
namespace Go.Proofs.YtmplaikgbeeikaaGreatDoor
open Go Go.RowKit
namespace Sx
theorem bind_ok {α β:Type} {r:Res α} {f:α→List Tok→Res β} {b:β} {m:List Tok} (h:r.bind f=.ok b m):∃ a l,r=.ok a l∧f a l=.ok b m:=by
 cases r with
 | ok a l=>exact ⟨a,l,rfl,h⟩
 | bad l=>cases h
theorem next_ok {right:Txt→Bool} {l m:List Tok} {t:Txt} (h:next right l=.ok t m):right t=true∧m.length≤l.length:=by
 cases l with
 | nil=>cases h
 | cons u l =>
  have h:(if right u.1=true then Res.ok u.1 l else .bad (u::l))=.ok t m:=h
  split at h
  ·rename_i hr
   injection h with h1 h2
   subst h1 h2
   exact ⟨hr,by simp⟩
  ·cases h
theorem many_sz {α:Type} {begins:Txt→Bool} {read:List Tok→Res α} {P:α→Prop} {B:Nat} (hr:∀ l a m,l.length≤B→read l=.ok a m→P a∧m.length≤l.length) :
  ∀ (f:Nat) (acc:List α) (l:List Tok) (xs:List α) (m:List Tok),l.length≤B→many begins read f acc l=.ok xs m→xs.length≤acc.length+f∧m.length≤l.length∧((∀ x∈acc,P x)→∀ x∈xs,P x)
 | 0,acc,l,xs,m,_,h=>by
  injection h with h1 h2
  subst h1 h2
  exact ⟨Nat.le_refl _,Nat.le_refl _,fun h=>h⟩
 | f+1,acc,[],xs,m,_,h=>by
  injection h with h1 h2
  subst h1 h2
  exact ⟨by omega,Nat.le_refl _,fun h=>h⟩
 | f+1,acc,t::r,xs,m,hl,h=>by
  have h:(if begins t.1=true then (read (t::r)).bind fun a l=>many begins read f (acc++[a]) l else .ok acc (t::r))=.ok xs m:=h
  split at h
  ·obtain ⟨a,l1,h1,h2⟩:=bind_ok h
   obtain ⟨p1,p2⟩:=hr _ _ _ hl h1
   obtain ⟨q1,q2,q3⟩:=many_sz hr f _ _ _ _ (by omega) h2
   rw [aK,List.length_singleton] at q1
   refine ⟨by omega,by omega,fun hP=>q3 fun x hx=>?_⟩
   rcases List.mem_append.1 hx with hx | hx
   ·exact hP x hx
   ·rw [List.mem_singleton] at hx;subst hx;exact p1
  ·injection h with h1 h2
   subst h1 h2
   exact ⟨by omega,Nat.le_refl _,fun h=>h⟩
theorem number_ok {l m:List Tok} {n:Int} (h:number l=.ok n m):m.length≤l.length:=loc_len loc_number h
theorem name_ok {l m:List Tok} {t:Txt} (h:name l=.ok t m):t.length≤12∧m.length≤l.length:=by
 obtain ⟨h1,h2⟩:=next_ok h
 unfold nameB at h1
 simp only [Bool.and_eq_true,decide_eq_true_eq] at h1
 exact ⟨h1.1.1.2,h2⟩
theorem names_ok {l m:List Tok} {t:Txt} (h:names l=.ok t m):t.length≤12∧m.length≤l.length:=by
 obtain ⟨a,l1,h1,h2⟩:=bind_ok h
 obtain ⟨h3,h4⟩:=next_ok h1
 injection h2 with h5 h6
 subst h5 h6
 refine ⟨?_,h4⟩
 split
 ·decide
 ·rename_i hn
  rw [Bool.or_eq_true] at h3
  rcases h3 with h3 | h3
  ·unfold nameB at h3
   simp only [Bool.and_eq_true,decide_eq_true_eq] at h3
   exact h3.1.1.2
  ·exact absurd h3 hn
theorem count_ok {l m:List Tok} {n:Nat} (h:count l=.ok n m):n≤12∧m.length≤l.length:=by
 obtain ⟨a,l1,h1,h2⟩:=bind_ok h
 obtain ⟨h3,h4⟩:=next_ok h1
 injection h2 with h5 h6
 subst h5 h6
 rw [Bool.and_eq_true] at h3
 have:=within_of h3.2
 exact ⟨by omega,h4⟩
theorem picks_len:∀ (n:Nat) (ws:List ByteArray) (ns:List Int) (l:List Tok) (p:List ByteArray × List Int) (m:List Tok),picks n ws ns l=.ok p m→p.2.length=ns.length+n
 | 0,_,_,_,_,_,h=>by injection h with h1 h2;subst h1;rfl
 | n+1,ws,ns,l,p,m,h=>by
  obtain ⟨w,l1,_,h2⟩:=bind_ok h
  obtain ⟨v,l2,_,h4⟩:=bind_ok h2
  have:=picks_len n _ _ _ _ _ h4
  rw [aK,List.length_singleton] at this
  omega
theorem states_len:∀ (n:Nat) (ws:List ByteArray) (l:List Tok) (p:List ByteArray) (m:List Tok),states n ws l=.ok p m→p.length=ws.length+n
 | 0,_,_,_,_,h=>by injection h with h1 h2;subst h1;rfl
 | n+1,ws,l,p,m,h=>by
  obtain ⟨w,l1,_,h2⟩:=bind_ok h
  have:=states_len n _ _ _ _ h2
  rw [aK,List.length_singleton] at this
  omega
theorem field1_ok {k:Nat} {nm:ByteArray} {l m:List Tok} {f:Fld} (h:field1 k nm l=.ok f m):(Sc.wts f).length≤12:=by
 unfold field1 at h
 split at h
 ·obtain ⟨_,_,_,h⟩:=bind_ok h
  injection h with h1 h2;subst h1;exact Nat.zero_le _
 split at h
 ·obtain ⟨n,l1,h1,h⟩:=bind_ok h
  obtain ⟨p,l2,h2,h⟩:=bind_ok h
  have:=picks_len _ _ _ _ _ _ h2
  have hn:=(count_ok h1).1
  injection h with h3 h4;subst h3
  show p.2.length≤12
  rw [this];simpa using hn
 split at h
 ·obtain ⟨_,_,_,h⟩:=bind_ok h
  injection h with h1 h2;subst h1;exact Nat.zero_le _
 split at h
 ·obtain ⟨_,_,_,h⟩:=bind_ok h
  obtain ⟨_,_,_,h⟩:=bind_ok h
  injection h with h1 h2;subst h1;exact Nat.zero_le _
 split at h
 ·obtain ⟨_,_,_,h⟩:=bind_ok h
  obtain ⟨_,_,_,h⟩:=bind_ok h
  obtain ⟨_,_,_,h⟩:=bind_ok h
  obtain ⟨_,_,_,h⟩:=bind_ok h
  injection h with h1 h2;subst h1;exact Nat.zero_le _
 split at h
 ·obtain ⟨_,_,_,h⟩:=bind_ok h
  obtain ⟨_,_,_,h⟩:=bind_ok h
  injection h with h1 h2;subst h1;exact Nat.zero_le _
 ·obtain ⟨_,_,_,h⟩:=bind_ok h
  obtain ⟨_,_,_,h⟩:=bind_ok h
  obtain ⟨_,_,_,h⟩:=bind_ok h
  injection h with h1 h2;subst h1;exact Nat.zero_le _
theorem field_ok {l m:List Tok} {f:Fld} (h:field l=.ok f m):(Sc.wts f).length≤12∧m.length≤l.length:=by
 refine ⟨?_,loc_len loc_field h⟩
 rw [field_eq] at h
 obtain ⟨_,_,_,h⟩:=bind_ok h
 obtain ⟨_,_,_,h⟩:=bind_ok h
 exact field1_ok h
theorem kind_ok {B:Nat} {l m:List Tok} {k:Knd} (hl:l.length≤B) (h:kind l=.ok k m):((Sc.flds k).length≤B∧∀ f∈Sc.flds k,(Sc.wts f).length≤12)∧m.length≤l.length:=by
 refine ⟨?_,loc_len loc_kind h⟩
 obtain ⟨_,l1,h1,h⟩:=bind_ok h
 obtain ⟨_,l2,h2,h⟩:=bind_ok h
 obtain ⟨_,l3,h3,h⟩:=bind_ok h
 obtain ⟨_,l4,h4,h⟩:=bind_ok h
 obtain ⟨fs,l5,h5,h⟩:=bind_ok h
 have a1:=loc_len (loc_need _) h1
 have a2:=(name_ok h2).2
 have a3:=number_ok h3
 have a4:=number_ok h4
 obtain ⟨q1,_,q3⟩:=many_sz (P:=fun f:Fld=>(Sc.wts f).length≤12) (B:=l4.length) (fun l a m _ h=>field_ok h) _ _ _ _ _ (Nat.le_refl _) h5
 injection h with h6 h7
 subst h6
 exact ⟨by show fs.length≤B;simp at q1;omega,q3 (fun _ h=>by cases h)⟩
theorem life_ok {B:Nat} {l m:List Tok} {x:Lif} (hl:l.length≤B) (h:life l=.ok x m):(x.2.1.length≤12∧x.2.2.length≤B)∧m.length≤l.length:=by
 refine ⟨?_,loc_len loc_life h⟩
 obtain ⟨_,l1,h1,h⟩:=bind_ok h
 obtain ⟨_,l2,h2,h⟩:=bind_ok h
 obtain ⟨n,l3,h3,h⟩:=bind_ok h
 obtain ⟨ss,l4,h4,h⟩:=bind_ok h
 obtain ⟨ms,l5,h5,h⟩:=bind_ok h
 have a1:=loc_len (loc_need _) h1
 have a2:=(name_ok h2).2
 have a3:=count_ok h3
 have a4:=loc_len (loc_states _ _) h4
 have a5:=states_len _ _ _ _ _ h4
 obtain ⟨q1,_,_⟩:=many_sz (P:=fun _:Int × Int=>True) (B:=l4.length) (fun l a m _ h=>⟨trivial,loc_len loc_move h⟩) _ _ _ _ _ (Nat.le_refl _) h5
 injection h with h6 h7
 subst h6
 exact ⟨by show ss.length≤12;simp at a5;omega,by show ms.length≤B;simp at q1;omega⟩
theorem rule_ok {l m:List Tok} {r:Rul} (h:rule l=.ok r m):(r.2.2.1.size≤12∧r.2.2.2.1.size≤12)∧m.length≤l.length:=by
 refine ⟨?_,loc_len loc_rule h⟩
 obtain ⟨_,l1,_,h⟩:=bind_ok h
 obtain ⟨_,l2,_,h⟩:=bind_ok h
 obtain ⟨_,l3,_,h⟩:=bind_ok h
 obtain ⟨a,l4,h4,h⟩:=bind_ok h
 obtain ⟨b,l5,h5,h⟩:=bind_ok h
 obtain ⟨_,l6,_,h⟩:=bind_ok h
 have a4:=(names_ok h4).1
 have a5:=(names_ok h5).1
 injection h with h6 h7
 subst h6
 constructor
 ·show (ofT a).size≤12;unfold ofT;simpa [ByteArray.size] using a4
 ·show (ofT b).size≤12;unfold ofT;simpa [ByteArray.size] using a5
theorem schema_sz {l m:List Tok} {x:Sch} (hl:l.length≤8192) (h:schema l=.ok x m):Sz x:=by
 obtain ⟨_,l1,h1,h⟩:=bind_ok h
 obtain ⟨_,l2,h2,h⟩:=bind_ok h
 obtain ⟨ks,l3,h3,h⟩:=bind_ok h
 obtain ⟨ls,l4,h4,h⟩:=bind_ok h
 obtain ⟨rs,l5,h5,h⟩:=bind_ok h
 have a1:=loc_len (loc_need _) h1
 have a2:=number_ok h2
 obtain ⟨_,b3,q3⟩:=many_sz (P:=fun k:Knd=>(Sc.flds k).length≤8192∧∀ f∈Sc.flds k,(Sc.wts f).length≤12) (B:=8192) (fun l a m hl h=>kind_ok hl h) _ _ _ _ _ (by omega) h3
 obtain ⟨_,b4,q4⟩:=many_sz (P:=fun x:Lif=>x.2.1.length≤12∧x.2.2.length≤8192) (B:=8192) (fun l a m hl h=>life_ok hl h) _ _ _ _ _ (by omega) h4
 obtain ⟨_,b5,q5⟩:=many_sz (P:=fun r:Rul=>r.2.2.1.size≤12∧r.2.2.2.1.size≤12) (B:=8192) (fun l a m hl h=>rule_ok h) _ _ _ _ _ (by omega) h5
 injection h with h6 h7
 subst h6
 refine ⟨fun k hk=>?_,fun x hx=>?_,fun r hr=>?_⟩
 ·have:=q3 (fun _ h=>by cases h) k hk
  exact ⟨by omega,fun f hf=>by have:=this.2 f hf;omega⟩
 ·have:=q4 (fun _ h=>by cases h) x hx
  omega
 ·have:=q5 (fun _ h=>by cases h) r hr
  omega
end Sx
section
variable {w:World} {g:Nat} {st:Sx.St} {M:List Nat} {bx:List Box} {rs:List Rw} {L:List (List Nat→World→Prop)} {W:World}
theorem isK_any (h:PH (pkP w g) st M bx rs L W):Calls Tryz.prog 35 #[.string ⟨#[107,105,110,100]⟩] W fun e W'=>∃ N,e=.returned (.func (.func 78) #[] #[.pointer (some ⟨N,0,none⟩)])∧PH (pkP w g) st M bx rs (IsB N Sx.sKind::L) W':=is_any Sx.sKind h
theorem isL_any (h:PH (pkP w g) st M bx rs L W):Calls Tryz.prog 35 #[.string ⟨#[108,105,102,101]⟩] W fun e W'=>∃ N,e=.returned (.func (.func 78) #[] #[.pointer (some ⟨N,0,none⟩)])∧PH (pkP w g) st M bx rs (IsB N Sx.sLife::L) W':=is_any Sx.sLife h
theorem isR_any (h:PH (pkP w g) st M bx rs L W):Calls Tryz.prog 35 #[.string ⟨#[114,117,108,101]⟩] W fun e W'=>∃ N,e=.returned (.func (.func 78) #[] #[.pointer (some ⟨N,0,none⟩)])∧PH (pkP w g) st M bx rs (IsB N Sx.sRule::L) W':=is_any Sx.sRule h
theorem sK_any (he:SEnv w) {N:Nat} (h:PH (pkP w g) st M bx rs (IsB N Sx.sKind::L) W):Calls Tryz.prog 34 #[.pointer (some ⟨g,0,none⟩),.func (.func 78) #[] #[.pointer (some ⟨N,0,none⟩)],.func (.func 36) #[.pointer (some ⟨g,0,none⟩)] #[]] W (RdL (pkP w g) (fun l=>Sx.many (fun t=>t == Sx.sKind) Sx.kind l.length [] l) st bx rs L) :=
 (someK_any he (by decide) (.head _) h).mono fun _ _ ⟨l,A,c,st',M',h1,h2,h3,h4,h5,h6⟩=>⟨l,A,c,st',M',h1,h2,h3,h4,h5,h6.less fun P hP=>by
  rcases aL hP with rfl | hP
  ·exact .head _
  ·exact .tail _ (.tail _ hP)⟩
theorem sL_any (he:SEnv w) {N:Nat} (h:PH (pkP w g) st M bx rs (IsB N Sx.sLife::L) W):Calls Tryz.prog 37 #[.pointer (some ⟨g,0,none⟩),.func (.func 78) #[] #[.pointer (some ⟨N,0,none⟩)],.func (.func 38) #[.pointer (some ⟨g,0,none⟩)] #[]] W (RdL (pkP w g) (fun l=>Sx.many (fun t=>t == Sx.sLife) Sx.life l.length [] l) st bx rs L) :=
 (someL_any he (by decide) (.head _) h).mono fun _ _ ⟨l,A,c,st',M',h1,h2,h3,h4,h5,h6⟩=>⟨l,A,c,st',M',h1,h2,h3,h4,h5,h6.less fun P hP=>by
  rcases aL hP with rfl | hP
  ·exact .head _
  ·exact .tail _ (.tail _ hP)⟩
theorem sR_any (he:SEnv w) {N:Nat} (h:PH (pkP w g) st M bx rs (IsB N Sx.sRule::L) W):Calls Tryz.prog 39 #[.pointer (some ⟨g,0,none⟩),.func (.func 78) #[] #[.pointer (some ⟨N,0,none⟩)],.func (.func 40) #[.pointer (some ⟨g,0,none⟩)] #[]] W (RdL (pkP w g) (fun l=>Sx.many (fun t=>t == Sx.sRule) Sx.rule l.length [] l) st bx rs L) :=
 (someR_any he (by decide) (.head _) h).mono fun _ _ ⟨l,A,c,st',M',h1,h2,h3,h4,h5,h6⟩=>⟨l,A,c,st',M',h1,h2,h3,h4,h5,h6.less fun P hP=>by
  rcases aL hP with rfl | hP
  ·exact .head _
  ·exact .tail _ (.tail _ hP)⟩
end
theorem Held.put0 {w W:World} {G M:List Nat} {L:List (List Nat→World→Prop)} {N:Nat} {t:TypeId} {cs:Array Value} {bx2:List Box} (h:Held w G M ((N,t,cs)::bx2) L W) (i:Nat) (u:Value):Held w G M ((N,t,cs.setIfInBounds i u)::bx2) L (W.setCell ⟨N,i,none⟩ u):=Held.set_ (bx1:=[]) h i u
theorem Sx.nx_fin {α:Type} {p:List Sx.Tok→Sx.Res α} {l0 l:List Sx.Tok} {f:Bool} {x:α} (h:Sx.Nx p (l0,false) x (l,f)):(f=false→p l0=.ok x l)∧(f=true→p l0=.bad l):=by
 rw [Sx.nx_iff] at h
 cases hp:p l0 with
 | ok a m =>
  rw [hp] at h
  obtain ⟨h0,h⟩:=h
  injection h with h1 h2
  subst h0 h1 h2
  exact ⟨fun _=>rfl,fun h=>by cases h⟩
 | bad m =>
  rw [hp] at h
  injection h with h1 h2
  subst h1 h2
  exact ⟨fun h=>(by cases h),fun _=>rfl⟩
def PParseP (r:Sch × Int × Int) (w:World) (e:Ending) (w':World):Prop:=∃ us,e=.returned (.tuple #[.agg us.toArray,.int .i64 r.2.1,.int .i64 r.2.2])∧Mem.rep [] w' r.1 us∧Below w.heap.size w w'
theorem noSch_rep (w:World):Mem.rep [] w Sx.noSch [.int .i64 0,.slice none 0 0,.slice none 0 0,.slice none 0 0] :=
 ⟨[_],_,rfl,⟨rfl,by constructor <;> decide⟩,[_],_,rfl,⟨none,0,rfl,Nat.le_refl _,by decide,.nil⟩,[_],_,rfl,⟨none,0,rfl,Nat.le_refl _,by decide,.nil⟩,⟨none,0,rfl,Nat.le_refl _,by decide,.nil⟩⟩
set_option maxRecDepth 100000 in
set_option maxHeartbeats 16000000 in
theorem pparse_any (s:ByteArray) (w:World) (hs:s.size≤9223372036854775807) (he:SEnv w):Calls Tryz.prog 13 #[.string s] w (PParseP (Sx.parse s.data.toList) w):=by
 obtain ⟨n,hn⟩:∃ n,s.size=n:=⟨_,rfl⟩
 have hln:s.data.toList.length=n:=by rw [Vm.strLn,hn]
 have hsn:s.size=n:=hn
 by_cases hl:8192 < n
 ·have k1:(8192:Int) < (n:Int):=by omega
  have hp:Sx.parse s.data.toList=(Sx.noSch,8192,4):=by unfold Sx.parse;rw [hln,if_pos hl]
  rw [hp]
  obtain ⟨Nr,hNr⟩:∃ n,w.heap.size=n:=⟨_,rfl⟩
  have T:=aI ((held0 w [] (fun _ h=>by cases h)).new #[.int .i64 0,.slice none 0 0,.slice none 0 0,.slice none 0 0] 28 hNr)
  have HNr:=aI hNr
  clear hp hln hs he hn hNr
  go_enter Tryz.func13,Tryz.ntmps13
  go_upto_region 2 with fail
  rw [HNr.out]
  generalize w.alloc (.cells #[.int .i64 0,.slice none 0 0,.slice none 0 0,.slice none 0 0] 28)=W1 at *
  have B:=T.out.box (.head _);have z0:=B.cell 0;have z1:=B.cell 1;have z2:=B.cell 2;have z3:=B.cell 3;have f0:=B.frozen 0;have f1:=B.frozen 1;have f2:=B.frozen 2;have f3:=B.frozen 3;simp at z0 z1 z2 z3;dsimp only at f0 f1 f2 f3;clear B
  have T2:=aI (show Held w [] [Nr] [(Nr,28,#[.int .i64 0,.slice none 0 0,.slice none 0 0,.slice none 0 0])] [] _ from (((T.out.put0 0 (.int .i64 0)).put0 1 (.slice none 0 0)).put0 2 (.slice none 0 0)).put0 3 (.slice none 0 0))
  go_wp2_with fail
  clear z0 z1 z2 z3 f0 f1 f2 f3
  generalize (((W1.setCell ⟨Nr,0,none⟩ (.int .i64 0)).setCell ⟨Nr,1,none⟩ (.slice none 0 0)).setCell ⟨Nr,2,none⟩ (.slice none 0 0)).setCell ⟨Nr,3,none⟩ (.slice none 0 0)=W2 at *
  have B:=T2.out.box (.head _);have y0:=B.cell 0;have y1:=B.cell 1;have y2:=B.cell 2;have y3:=B.cell 3
  simp at y0 y1 y2 y3
  refine bodyPost_ret (v:=.tuple #[.agg #[.int .i64 0,.slice none 0 0,.slice none 0 0,.slice none 0 0],.int .i64 8192,.int .i64 4]) ?_ rfl ?_
  ·simp [results,Tryz.results13,go_sem,y0,y1,y2,y3]
  ·exact ⟨[.int .i64 0,.slice none 0 0,.slice none 0 0,.slice none 0 0],rfl,noSch_rep _,T2.out.bl⟩
 ·have k1:¬ (8192:Int) < (n:Int):=by omega
  obtain ⟨Nr,hNr⟩:∃ n,w.heap.size=n:=⟨_,rfl⟩
  have CS:=aI (fun W (hW:Nr < W.heap.size)=>pscanG_any [Nr] s W (fun g hg=>by rw [List.mem_singleton] at hg;subst hg;exact hW) (by omega))
  have T:=aI ((HR.start (held0 w [] (fun _ h=>by cases h))).new #[.int .i64 0,.slice none 0 0,.slice none 0 0,.slice none 0 0] 28 hNr)
  have HE:=aI he
  have HNr:=aI hNr
  have HP1:=fun h:Sx.schema (Sx.toks s.data.toList)=.bad []=>show Sx.parse s.data.toList=(Sx.noSch,(Sx.stopAt s.data.toList:Int),2) by unfold Sx.parse;rw [hln,if_neg hl,h]
  have HP2:=fun t l (h:Sx.schema (Sx.toks s.data.toList)=.bad (t::l))=>show Sx.parse s.data.toList=(Sx.noSch,(t.2:Int),2) by unfold Sx.parse;rw [hln,if_neg hl,h]
  have HP3:=fun x t l (h:Sx.schema (Sx.toks s.data.toList)=.ok x (t::l))=>show Sx.parse s.data.toList=(Sx.noSch,(t.2:Int),2) by unfold Sx.parse;rw [hln,if_neg hl,h]
  have HP4:=fun x (h:Sx.schema (Sx.toks s.data.toList)=.ok x []) (h2:Sx.stopAt s.data.toList < n)=>show Sx.parse s.data.toList=(Sx.noSch,(Sx.stopAt s.data.toList:Int),2) by unfold Sx.parse;rw [hln,if_neg hl,h];exact if_pos h2
  have HP5:=fun x (h:Sx.schema (Sx.toks s.data.toList)=.ok x []) (h2:¬ Sx.stopAt s.data.toList < n) (h3:Sx.valid x=0)=>show Sx.parse s.data.toList=(x,0,0) by unfold Sx.parse;rw [hln,if_neg hl,h];exact (if_neg h2).trans (if_pos h3)
  have HP6:=fun x (h:Sx.schema (Sx.toks s.data.toList)=.ok x []) (h2:¬ Sx.stopAt s.data.toList < n) (h3:¬ Sx.valid x=0)=>show Sx.parse s.data.toList=(Sx.noSch,0,4) by unfold Sx.parse;rw [hln,if_neg hl,h];exact (if_neg h2).trans (if_neg h3)
  clear hs he hNr hln
  generalize Sx.parse s.data.toList=pr at *
  obtain ⟨tks,htk⟩:∃ l,Sx.toks s.data.toList=l:=⟨_,rfl⟩
  obtain ⟨sat,hsat⟩:∃ l,Sx.stopAt s.data.toList=l:=⟨_,rfl⟩
  have CS2:=aI (fun W (hW:Nr < W.heap.size)=>show Calls Tryz.prog 31 #[.string s] W fun e w'=>∃ A c,e=.returned (.tuple #[.slice A tks.length c,.int .i64 (sat:Nat)])∧tks.length≤c∧c≤9223372036854775807∧SlAt [Nr] w' A (tks.map tokP)∧TokOk tks∧Below W.heap.size W w' from by rw [← htk,← hsat];exact CS.out W hW)
  rw [htk] at HP1 HP2 HP3 HP4 HP5 HP6
  rw [hsat] at HP1 HP4 HP5 HP6
  replace HP1:=aI HP1;replace HP2:=aI HP2;replace HP3:=aI HP3;replace HP4:=aI HP4;replace HP5:=aI HP5;replace HP6:=aI HP6
  clear CS htk hsat
  go_enter Tryz.func13,Tryz.ntmps13
  go_upto_region 1 with fail
  rw [HNr.out]
  generalize w.alloc (.cells #[.int .i64 0,.slice none 0 0,.slice none 0 0,.slice none 0 0] 28)=W1 at *
  have hlt:=T.out.h.mb Nr (.head _)
  go_upto_region 4 with (go_at_call 31;((with_reducible refine (CS2.out _ hlt).mono ?_));rintro e w2 ⟨A,c,rfl,d1,d2,d3,d4,hb2⟩;replace T:=aI (T.out.below hb2);have D:=aI (show tks.length≤c∧c≤9223372036854775807∧SlAt [Nr] w2 A (tks.map tokP)∧TokOk tks from ⟨d1,d2,d3,d4⟩);clear hb2 d1 d2 d3 d4)
  obtain ⟨Np,hNp⟩:∃ n,w2.heap.size=n:=⟨_,rfl⟩
  have P:=aI (show PH (pkP w Np) (tks,false) (Np::[Nr]) [(Nr,28,#[.int .i64 0,.slice none 0 0,.slice none 0 0,.slice none 0 0])] [] [] _ from ⟨_,(T.out.new #[.slice A tks.length c,.bool false] 79 hNp).add (pc_keeps (tks,false) _) ⟨A,c,rfl,D.out.1,D.out.2.1,(D.out.2.2.1.sub (fun g hg=>by
   rcases aL hg with rfl | hg
   ·exact .inr (Nat.le_of_eq hNp)
   ·exact .inl hg)).keep (Chg.of_below ((Below.refl _ _).alloc (Nat.le_refl _) _)),D.out.2.2.2⟩⟩)
  have HTL:=aI D.out.2.2.2.1
  clear D T hlt
  go_upto_region 5 with fail
  generalize w2.alloc (.cells #[.slice A tks.length c,.bool false] 79)=w3 at *
  clear hNp
  go_upto_region 6 with (go_at_call 32;((with_reducible refine (needSchema_any P.out).mono ?_));rintro e w4 ⟨st1,rfl,x1,h1⟩;replace P:=aI h1;have X1:=aI x1;clear h1 x1)
  go_upto_region 7 with (go_at_call 33;((with_reducible refine (num_any' HE.out P.out).mono ?_));rintro e w5 ⟨v,st2,rfl,i2,x2,h2⟩;replace P:=aI h2;have X2:=aI x2;have I2:=aI i2;clear h2 x2 i2)
  obtain ⟨Nx,hNx⟩:∃ n,w5.heap.size=n:=⟨_,rfl⟩
  replace P:=aI (P.out.new #[.int .i64 v,.slice none 0 0,.slice none 0 0,.slice none 0 0] 28 hNx)
  rw [hNx]
  clear hNx
  generalize w5.alloc (.cells #[.int .i64 v,.slice none 0 0,.slice none 0 0,.slice none 0 0] 28)=w6 at *
  have B:=P.out.box (.head _);have z0:=B.cell 0;have z1:=B.cell 1;have z2:=B.cell 2;have z3:=B.cell 3;have f0:=B.frozen 0;have f1:=B.frozen 1;have f2:=B.frozen 2;have f3:=B.frozen 3;simp at z0 z1 z2 z3;dsimp only at f0 f1 f2 f3;clear B
  go_upto_region 8 with (first | (go_at_call 35;((with_reducible refine (isK_any P.out).mono ?_));rintro e w6 ⟨Ni,rfl,h6⟩;replace P:=aI h6;clear h6) | (go_at_call 34;((with_reducible refine (sK_any HE.out P.out).mono ?_));rintro e w7 ⟨ks,A3,c3,st3,M3,rfl,d1,d2,d3,x3,h7⟩;replace P:=aI h7;have X3:=aI x3;have D3:=aI (show ks.length≤c3∧c3≤9223372036854775807 from ⟨d1,d2⟩);clear h7 x3 d1 d2 d3 z0 z1 z2 z3 f0 f1 f2 f3;have B:=P.out.box (.head _);have z0:=B.cell 0;have z1:=B.cell 1;have z2:=B.cell 2;have z3:=B.cell 3;have f0:=B.frozen 0;have f1:=B.frozen 1;have f2:=B.frozen 2;have f3:=B.frozen 3;simp at z0 z1 z2 z3;dsimp only at f0 f1 f2 f3;clear B))
  replace P:=aI (P.out.set0 1 (.slice A3 ks.length c3))
  replace P:=aI (show PH (pkP w Np) st3 M3 [(Nx,28,#[.int .i64 v,.slice A3 ks.length c3,.slice none 0 0,.slice none 0 0]),(Nr,28,#[.int .i64 0,.slice none 0 0,.slice none 0 0,.slice none 0 0])] [] _ _ from P.out)
  clear z0 z1 z2 z3 f0 f1 f2 f3
  generalize w7.setCell ⟨Nx,1,none⟩ (.slice A3 ks.length c3)=w8 at *
  have B:=P.out.box (.head _);have z0:=B.cell 0;have z1:=B.cell 1;have z2:=B.cell 2;have z3:=B.cell 3;have f0:=B.frozen 0;have f1:=B.frozen 1;have f2:=B.frozen 2;have f3:=B.frozen 3;simp at z0 z1 z2 z3;dsimp only at f0 f1 f2 f3;clear B
  go_upto_region 9 with (first | (go_at_call 35;((with_reducible refine (isL_any P.out).mono ?_));rintro e w6 ⟨Ni,rfl,h6⟩;replace P:=aI h6;clear h6) | (go_at_call 37;((with_reducible refine (sL_any HE.out P.out).mono ?_));rintro e w7 ⟨ls,A4,c4,st4,M4,rfl,d1,d2,d3,x4,h7⟩;replace P:=aI h7;have X4:=aI x4;have D4:=aI (show ls.length≤c4∧c4≤9223372036854775807 from ⟨d1,d2⟩);clear h7 x4 d1 d2 d3 z0 z1 z2 z3 f0 f1 f2 f3;have B:=P.out.box (.head _);have z0:=B.cell 0;have z1:=B.cell 1;have z2:=B.cell 2;have z3:=B.cell 3;have f0:=B.frozen 0;have f1:=B.frozen 1;have f2:=B.frozen 2;have f3:=B.frozen 3;simp at z0 z1 z2 z3;dsimp only at f0 f1 f2 f3;clear B))
  replace P:=aI (P.out.set0 2 (.slice A4 ls.length c4))
  replace P:=aI (show PH (pkP w Np) st4 M4 [(Nx,28,#[.int .i64 v,.slice A3 ks.length c3,.slice A4 ls.length c4,.slice none 0 0]),(Nr,28,#[.int .i64 0,.slice none 0 0,.slice none 0 0,.slice none 0 0])] [] _ _ from P.out)
  clear z0 z1 z2 z3 f0 f1 f2 f3
  generalize w7.setCell ⟨Nx,2,none⟩ (.slice A4 ls.length c4)=w8 at *
  have B:=P.out.box (.head _);have z0:=B.cell 0;have z1:=B.cell 1;have z2:=B.cell 2;have z3:=B.cell 3;have f0:=B.frozen 0;have f1:=B.frozen 1;have f2:=B.frozen 2;have f3:=B.frozen 3;simp at z0 z1 z2 z3;dsimp only at f0 f1 f2 f3;clear B
  go_upto_region 10 with (first | (go_at_call 35;((with_reducible refine (isR_any P.out).mono ?_));rintro e w6 ⟨Ni,rfl,h6⟩;replace P:=aI h6;clear h6) | (go_at_call 39;((with_reducible refine (sR_any HE.out P.out).mono ?_));rintro e w7 ⟨rs,A5,c5,st5,M5,rfl,d1,d2,d3,x5,h7⟩;replace P:=aI h7;have X5:=aI x5;have D5:=aI (show rs.length≤c5∧c5≤9223372036854775807 from ⟨d1,d2⟩);clear h7 x5 d1 d2 d3 z0 z1 z2 z3 f0 f1 f2 f3;have B:=P.out.box (.head _);have z0:=B.cell 0;have z1:=B.cell 1;have z2:=B.cell 2;have z3:=B.cell 3;have f0:=B.frozen 0;have f1:=B.frozen 1;have f2:=B.frozen 2;have f3:=B.frozen 3;simp at z0 z1 z2 z3;dsimp only at f0 f1 f2 f3;clear B))
  replace P:=aI (P.out.set0 3 (.slice A5 rs.length c5))
  replace P:=aI (show PH (pkP w Np) st5 M5 [(Nx,28,#[.int .i64 v,.slice A3 ks.length c3,.slice A4 ls.length c4,.slice A5 rs.length c5]),(Nr,28,#[.int .i64 0,.slice none 0 0,.slice none 0 0,.slice none 0 0])] [] _ _ from P.out)
  clear z0 z1 z2 z3 f0 f1 f2 f3
  generalize w7.setCell ⟨Nx,3,none⟩ (.slice A5 rs.length c5)=w8 at *
  have B:=P.out.box (.head _);have z0:=B.cell 0;have z1:=B.cell 1;have z2:=B.cell 2;have z3:=B.cell 3;have f0:=B.frozen 0;have f1:=B.frozen 1;have f2:=B.frozen 2;have f3:=B.frozen 3;simp at z0 z1 z2 z3;dsimp only at f0 f1 f2 f3;clear B
  have XS:=aI (show Sx.Nx Sx.schema (tks,false) (v,ks,ls,rs) st5 from Sx.nx_bind X1.out (Sx.nx_bind X2.out (Sx.nx_bind X3.out (Sx.nx_bind X4.out (Sx.nx_bind X5.out (Sx.nx_ret _ _))))))
  clear X1 X2 X3 X4 X5
  have C:=P.out.box (.tail _ (.head _));have y0:=C.cell 0;have y1:=C.cell 1;have y2:=C.cell 2;have y3:=C.cell 3;have g0:=C.frozen 0;have g1:=C.frozen 1;have g2:=C.frozen 2;have g3:=C.frozen 3
  simp at y0 y1 y2 y3
  dsimp only at g0 g1 g2 g3
  clear C
  have PZ:=aI (show PH (pkP w Np) st5 M5 [(Nr,28,#[.int .i64 0,.slice none 0 0,.slice none 0 0,.slice none 0 0]),(Nx,28,#[.int .i64 v,.slice A3 ks.length c3,.slice A4 ls.length c4,.slice A5 rs.length c5])] [] _ _ from (((P.out.bswap.set0 0 (.int .i64 0)).set0 1 (.slice none 0 0)).set0 2 (.slice none 0 0)).set0 3 (.slice none 0 0))
  obtain ⟨cs,hb,A8,c8,rfl,hc1,hc2,hsl,hok⟩:=P.out.pbox
  obtain ⟨l,f⟩:=st5
  have p0:=hb.cell 0
  have p1:=hb.cell 1
  simp at p0 p1
  obtain ⟨xs1,xs2⟩:=Sx.nx_fin XS.out
  clear hb
  cases l with
  | cons t r =>
   have HQ:=aI (show pr=(Sx.noSch,(t.2:Int),2) by
    cases f
    ·exact HP3.out _ _ _ (xs1 rfl)
    ·exact HP2.out _ _ (xs2 rfl))
   obtain ⟨b,o,rfl,hbM,_,d1⟩:=tokP_at hsl
   obtain ⟨cs9,H9⟩:=P.out.it
   have hNrM:=(H9.h.bs _ (.tail _ (.tail _ (.head _)))).1
   have hnd:=H9.h.nd
   simp only [List.map_cons,List.map_nil,List.nodup_cons,List.mem_cons,List.not_mem_nil,or_false,not_or] at hnd
   have hne1:Np≠Nr:=hnd.1.2
   have hne2:b≠Nr:=fun e=>hbM (e ▸ hNrM)
   have hne3:Nr≠Np:=fun e=>hne1 e.symm
   have hne4:Nr≠b:=fun e=>hne2 e.symm
   clear hbM H9 hNrM hnd
   obtain ⟨m,hm⟩:∃ m,(t::r).length=m:=⟨_,rfl⟩
   have hm0:0 < m:=by rw [← hm,List.length_cons];omega
   have z9:(0:Int) < (m:Int):=by omega
   have p0:w8.cell? ⟨Np,0,none⟩=some (.slice (some ⟨b,o,none⟩) m c8):=by rw [← hm];simpa using p0
   clear hsl hok hm hc1 xs1 xs2 HP1 HP2 HP3 HP4 HP5 HP6 CS2
   go_wp2_with fail
   go_region
   go_wp2_with fail
   clear z0 z1 z2 z3 f0 f1 f2 f3 y0 y1 y2 y3 g0 g1 g2 g3 p0 p1
   have PZ2:=aI (PZ.out.drew)
   generalize (((w8.setCell ⟨Nr,0,none⟩ (.int .i64 0)).setCell ⟨Nr,1,none⟩ (.slice none 0 0)).setCell ⟨Nr,2,none⟩ (.slice none 0 0)).setCell ⟨Nr,3,none⟩ (.slice none 0 0)=w9 at *
   have B:=PZ2.out.box (.head _);have y0:=B.cell 0;have y1:=B.cell 1;have y2:=B.cell 2;have y3:=B.cell 3
   simp at y0 y1 y2 y3
   refine bodyPost_ret (v:=.tuple #[.agg #[.int .i64 0,.slice none 0 0,.slice none 0 0,.slice none 0 0],.int .i64 (t.2:Int),.int .i64 2]) ?_ rfl ?_
   ·simp [results,Tryz.results13,go_sem,y0,y1,y2,y3]
   ·exact ⟨[.int .i64 0,.slice none 0 0,.slice none 0 0,.slice none 0 0],by rw [HQ.out],by rw [HQ.out];exact noSch_rep _,PZ2.out.bl⟩
  | nil =>
   have p0:w8.cell? ⟨Np,0,none⟩=some (.slice A8 0 c8):=by simpa using p0
   clear hsl hok hc1
   cases f
   ·have hsc:=xs1 rfl
    by_cases hsat:sat < n
    ·have HQ:=aI (HP4.out _ hsc hsat)
     have z9:(sat:Int) < (n:Int):=by omega
     clear hsc xs1 xs2 HP1 HP2 HP3 HP4 HP5 HP6 CS2
     go_wp2_with fail
     clear z0 z1 z2 z3 f0 f1 f2 f3 y0 y1 y2 y3 g0 g1 g2 g3 p0 p1
     have PZ2:=aI (PZ.out)
     generalize (((w8.setCell ⟨Nr,0,none⟩ (.int .i64 0)).setCell ⟨Nr,1,none⟩ (.slice none 0 0)).setCell ⟨Nr,2,none⟩ (.slice none 0 0)).setCell ⟨Nr,3,none⟩ (.slice none 0 0)=w9 at *
     have B:=PZ2.out.box (.head _);have y0:=B.cell 0;have y1:=B.cell 1;have y2:=B.cell 2;have y3:=B.cell 3
     simp at y0 y1 y2 y3
     refine bodyPost_ret (v:=.tuple #[.agg #[.int .i64 0,.slice none 0 0,.slice none 0 0,.slice none 0 0],.int .i64 (sat:Int),.int .i64 2]) ?_ rfl ?_
     ·simp [results,Tryz.results13,go_sem,y0,y1,y2,y3]
     ·exact ⟨[.int .i64 0,.slice none 0 0,.slice none 0 0,.slice none 0 0],by rw [HQ.out],by rw [HQ.out];exact noSch_rep _,PZ2.out.bl⟩
    ·have z9:(n:Int)≤(sat:Int):=by omega
     have HXR:=aI (show Mem.rep M5 w8 ((v,ks,ls,rs):Sch) [.int .i64 v,.slice A3 ks.length c3,.slice A4 ls.length c4,.slice A5 rs.length c5] from ⟨[_],_,rfl,⟨rfl,I2.out⟩,[_],_,rfl,⟨A3,c3,rfl,D3.out.1,D3.out.2,P.out.fact (.tail _ (.tail _ (.head _)))⟩,[_],_,rfl,⟨A4,c4,rfl,D4.out.1,D4.out.2,P.out.fact (.tail _ (.head _))⟩,⟨A5,c5,rfl,D5.out.1,D5.out.2,P.out.fact (.head _)⟩⟩)
     have CV:=aI (show Calls Tryz.prog 21 #[.agg #[.int .i64 v,.slice A3 ks.length c3,.slice A4 ls.length c4,.slice A5 rs.length c5]] w8 fun e w'=>e=.returned (.int .i64 (Sx.valid (v,ks,ls,rs)))∧Below w8.heap.size w8 w' from valid_any (v,ks,ls,rs) _ w8 (Mem.sub HXR.out (fun g hg=>by cases hg)) (Sx.schema_sz HTL.out hsc) (HE.out.to P.out.bl))
     replace P:=aI (P.out.add (keeps_rep ((v,ks,ls,rs):Sch) _) HXR.out)
     have HQ5:=aI (HP5.out _ hsc hsat)
     have HQ6:=aI (HP6.out _ hsc hsat)
     obtain ⟨vv,hvv⟩:∃ z,Sx.valid (v,ks,ls,rs)=z:=⟨_,rfl⟩
     rw [hvv] at CV HQ5 HQ6
     clear hsc hvv xs1 xs2 HP1 HP2 HP3 HP4 HP5 HP6 CS2 PZ HXR
     by_cases hv0:vv=0
     ·subst hv0
      have HQ:=aI (HQ5.out rfl)
      clear HQ5 HQ6
      go_upto_region 16 with (go_at_call 21;((with_reducible refine (CV.out).mono ?_));rintro e wv ⟨rfl,hb2⟩;replace P:=aI (P.out.below hb2);clear hb2;clear z0 z1 z2 z3 f0 f1 f2 f3 y0 y1 y2 y3 g0 g1 g2 g3;have B:=P.out.box (.head _);have z0:=B.cell 0;have z1:=B.cell 1;have z2:=B.cell 2;have z3:=B.cell 3;have f0:=B.frozen 0;have f1:=B.frozen 1;have f2:=B.frozen 2;have f3:=B.frozen 3;simp at z0 z1 z2 z3;dsimp only at f0 f1 f2 f3;clear B)
      have C:=P.out.box (.tail _ (.head _));have y0:=C.cell 0;have y1:=C.cell 1;have y2:=C.cell 2;have y3:=C.cell 3;have g0:=C.frozen 0;have g1:=C.frozen 1;have g2:=C.frozen 2;have g3:=C.frozen 3
      simp at y0 y1 y2 y3
      dsimp only at g0 g1 g2 g3
      clear C
      have PZ:=aI (show PH (pkP w Np) ([],false) M5 [(Nr,28,#[.int .i64 v,.slice A3 ks.length c3,.slice A4 ls.length c4,.slice A5 rs.length c5]),(Nx,28,#[.int .i64 v,.slice A3 ks.length c3,.slice A4 ls.length c4,.slice A5 rs.length c5])] [] _ _ from (((P.out.bswap.set0 0 (.int .i64 v)).set0 1 (.slice A3 ks.length c3)).set0 2 (.slice A4 ls.length c4)).set0 3 (.slice A5 rs.length c5))
      go_wp2_with fail
      clear z0 z1 z2 z3 f0 f1 f2 f3 y0 y1 y2 y3 g0 g1 g2 g3
      generalize (((wv.setCell ⟨Nr,0,none⟩ (.int .i64 v)).setCell ⟨Nr,1,none⟩ (.slice A3 ks.length c3)).setCell ⟨Nr,2,none⟩ (.slice A4 ls.length c4)).setCell ⟨Nr,3,none⟩ (.slice A5 rs.length c5)=w9 at *
      have B:=PZ.out.box (.head _);have y0:=B.cell 0;have y1:=B.cell 1;have y2:=B.cell 2;have y3:=B.cell 3
      simp at y0 y1 y2 y3
      refine bodyPost_ret (v:=.tuple #[.agg #[.int .i64 v,.slice A3 ks.length c3,.slice A4 ls.length c4,.slice A5 rs.length c5],.int .i64 0,.int .i64 0]) ?_ rfl ?_
      ·simp [results,Tryz.results13,go_sem,y0,y1,y2,y3]
      ·exact ⟨[.int .i64 v,.slice A3 ks.length c3,.slice A4 ls.length c4,.slice A5 rs.length c5],by rw [HQ.out],by rw [HQ.out];exact Mem.sub (PZ.out.fact (.head _)) (fun g hg=>by cases hg),PZ.out.bl⟩
     ·have HQ:=aI (HQ6.out hv0)
      have q1:(vv == 0)=false:=by simpa using hv0
      have q2:(vv != 0)=true:=by simpa using hv0
      clear HQ5 HQ6 hv0
      go_upto_region 15 with (go_at_call 21;((with_reducible refine (CV.out).mono ?_));rintro e wv ⟨rfl,hb2⟩;replace P:=aI (P.out.below hb2);clear hb2;clear z0 z1 z2 z3 f0 f1 f2 f3 y0 y1 y2 y3 g0 g1 g2 g3;have B:=P.out.box (.head _);have z0:=B.cell 0;have z1:=B.cell 1;have z2:=B.cell 2;have z3:=B.cell 3;have f0:=B.frozen 0;have f1:=B.frozen 1;have f2:=B.frozen 2;have f3:=B.frozen 3;simp at z0 z1 z2 z3;dsimp only at f0 f1 f2 f3;clear B)
      have C:=P.out.box (.tail _ (.head _));have y0:=C.cell 0;have y1:=C.cell 1;have y2:=C.cell 2;have y3:=C.cell 3;have g0:=C.frozen 0;have g1:=C.frozen 1;have g2:=C.frozen 2;have g3:=C.frozen 3
      simp at y0 y1 y2 y3
      dsimp only at g0 g1 g2 g3
      clear C
      have PZ2:=aI (show PH (pkP w Np) ([],false) M5 [(Nr,28,#[.int .i64 0,.slice none 0 0,.slice none 0 0,.slice none 0 0]),(Nx,28,#[.int .i64 v,.slice A3 ks.length c3,.slice A4 ls.length c4,.slice A5 rs.length c5])] [] _ _ from (((P.out.bswap.set0 0 (.int .i64 0)).set0 1 (.slice none 0 0)).set0 2 (.slice none 0 0)).set0 3 (.slice none 0 0))
      go_wp2_with fail
      clear z0 z1 z2 z3 f0 f1 f2 f3 y0 y1 y2 y3 g0 g1 g2 g3
      generalize (((wv.setCell ⟨Nr,0,none⟩ (.int .i64 0)).setCell ⟨Nr,1,none⟩ (.slice none 0 0)).setCell ⟨Nr,2,none⟩ (.slice none 0 0)).setCell ⟨Nr,3,none⟩ (.slice none 0 0)=w9 at *
      have B:=PZ2.out.box (.head _);have y0:=B.cell 0;have y1:=B.cell 1;have y2:=B.cell 2;have y3:=B.cell 3
      simp at y0 y1 y2 y3
      refine bodyPost_ret (v:=.tuple #[.agg #[.int .i64 0,.slice none 0 0,.slice none 0 0,.slice none 0 0],.int .i64 0,.int .i64 4]) ?_ rfl ?_
      ·simp [results,Tryz.results13,go_sem,y0,y1,y2,y3]
      ·exact ⟨[.int .i64 0,.slice none 0 0,.slice none 0 0,.slice none 0 0],by rw [HQ.out],by rw [HQ.out];exact noSch_rep _,PZ2.out.bl⟩
   ·have HQ:=aI (HP1.out (xs2 rfl))
    clear xs1 xs2 HP1 HP2 HP3 HP4 HP5 HP6 CS2
    go_wp2_with fail
    clear z0 z1 z2 z3 f0 f1 f2 f3 y0 y1 y2 y3 g0 g1 g2 g3 p0 p1
    have PZ2:=aI (PZ.out)
    generalize (((w8.setCell ⟨Nr,0,none⟩ (.int .i64 0)).setCell ⟨Nr,1,none⟩ (.slice none 0 0)).setCell ⟨Nr,2,none⟩ (.slice none 0 0)).setCell ⟨Nr,3,none⟩ (.slice none 0 0)=w9 at *
    have B:=PZ2.out.box (.head _);have y0:=B.cell 0;have y1:=B.cell 1;have y2:=B.cell 2;have y3:=B.cell 3
    simp at y0 y1 y2 y3
    refine bodyPost_ret (v:=.tuple #[.agg #[.int .i64 0,.slice none 0 0,.slice none 0 0,.slice none 0 0],.int .i64 (sat:Int),.int .i64 2]) ?_ rfl ?_
    ·simp [results,Tryz.results13,go_sem,y0,y1,y2,y3]
    ·exact ⟨[.int .i64 0,.slice none 0 0,.slice none 0 0,.slice none 0 0],by rw [HQ.out],by rw [HQ.out];exact noSch_rep _,PZ2.out.bl⟩
namespace Sx
def e1:ByteArray:=⟨#[115,99,104,101,109,97,32,49,32,107,105,110,100,32,97,32,48,32,57,32,107,101,121,32,105,100,32,53]⟩
def e2:ByteArray:=⟨#[115,99,104,101,109,97,32,49,32,107,105,110,100,32,50]⟩
def e3:ByteArray:=⟨#[115,99,104,101,109,97,32,49,32,107,105,110,100,32,97,32,48]⟩
def x1:Sch:=(1,[(⟨#[97]⟩,0,9,[(⟨#[105,100]⟩,⟨#[]⟩,⟨#[]⟩,0,5,0,[],[])])],[],[])
def p1:Txt:=[115,99,104,101,109,97,32,49,10,107,105,110,100,32,97,32,48,32,57,10,107,101,121,32,105,100,32,53,10]
theorem x1_src:source x1=p1:=by kernel_rfl
theorem x1_valid:valid x1=0:=by
 unfold valid
 rw [x1_src]
 decide
theorem x1_print:print x1=p1:=by
 unfold print
 rw [if_pos x1_valid,x1_src]
theorem e1_parse:parse e1.data.toList=(x1,0,0):=by
 have h1:schema (toks e1.data.toList)=.ok x1 []:=by kernel_rfl
 have h2:stopAt e1.data.toList=28:=by kernel_rfl
 unfold parse
 rw [if_neg (by decide),h1]
 exact (if_neg (by rw [h2];decide)).trans (if_pos x1_valid)
theorem e2_parse:parse e2.data.toList=(noSch,14,2):=by kernel_rfl
theorem e3_parse:parse e3.data.toList=(noSch,17,2):=by kernel_rfl
end Sx
theorem valid_ok {x:Sch} (h:Sx.valid x=0):Sx.okB x=true:=by
 unfold Sx.valid at h
 split at h
 ·assumption
 ·cases h
set_option maxRecDepth 100000 in
set_option maxHeartbeats 16000000 in
theorem print_any (x:Sch) (us:List Value) (w:World) (h:Mem.rep [] w x us) (hz:Sx.Sz x) (he:SEnv w):Calls Tryz.prog 20 #[.agg us.toArray] w fun e w'=>e=.returned (.string ⟨(Sx.print x).toArray⟩)∧Below w.heap.size w w':=by
 obtain ⟨A,c,B,d,C,e,rfl,s1,s2,s3,a1,b1,b2,b3,b4,b5,b6⟩:=rep_sch h
 obtain ⟨nk,hk⟩:∃ n,(Sc.kinds x).length=n:=⟨_,rfl⟩
 obtain ⟨nl,hl⟩:∃ n,x.2.2.1.length=n:=⟨_,rfl⟩
 obtain ⟨nr,hr⟩:∃ n,x.2.2.2.length=n:=⟨_,rfl⟩
 rw [hk,hl,hr] at h
 obtain ⟨N,hN⟩:∃ n,w.heap.size=n:=⟨_,rfl⟩
 obtain ⟨W0,hW0⟩:∃ X,w.alloc (.cells #[.int .i64 x.1,.slice A nk c,.slice B nl d,.slice C nr e] 28)=X:=⟨_,rfl⟩
 have hb0:Below w.heap.size w W0:=by rw [← hW0];exact (Below.refl w.heap.size w).alloc (Nat.le_refl _) _
 have hbk:Blk W0 N 28 #[.int .i64 x.1,.slice A nk c,.slice B nl d,.slice C nr e]:=by rw [← hW0,← hN];exact Blk.new w _ _
 have T:=aI (((held0 W0 [] (fun _ h=>by cases h)).add (keeps_rep x _) (Mem.keep h (Chg.of_below hb0))).add (P:=fun M W=>N∉M∧Blk W N 28 #[.int .i64 x.1,.slice A nk c,.slice B nl d,.slice C nr e]) (keeps_blk _ _ _) ⟨by simp,hbk⟩)
 have CV:=aI (fun (W:World) (hb:Below W0.heap.size W0 W)=>show Calls Tryz.prog 21 #[.agg #[.int .i64 x.1,.slice A nk c,.slice B nl d,.slice C nr e]] W fun e w'=>e=.returned (.int .i64 (Sx.valid x))∧Below W.heap.size W w' from valid_any x _ W ((T.out.below hb).fact (.tail _ (.head _))) hz (he.to (hb0.trans (hb.mono hb0.size))))
 have CS:=aI (fun (W:World) (hok:Sx.okB x=true) (hb:Below W0.heap.size W0 W)=>show Calls Tryz.prog 51 #[.agg #[.int .i64 x.1,.slice A nk c,.slice B nl d,.slice C nr e]] W fun e w'=>e=.returned (.string ⟨(Sx.source x).toArray⟩)∧Below W.heap.size W w' from source_any x _ W ((T.out.below hb).fact (.tail _ (.head _))) hok (he.to (hb0.trans (hb.mono hb0.size))))
 have HB:=aI hb0
 have HW0:=aI hW0
 have HN:=aI hN
 have hp:Sx.print x=if Sx.valid x=0 then Sx.source x else []:=rfl
 have HOK:=aI (valid_ok (x:=x))
 obtain ⟨vv,hvv⟩:∃ z,Sx.valid x=z:=⟨_,rfl⟩
 rw [hvv] at CV hp HOK
 show Calls Tryz.prog 20 #[.agg #[.int .i64 x.1,.slice A (Sc.kinds x).length c,.slice B x.2.2.1.length d,.slice C x.2.2.2.length e]] w _
 rw [hk,hl,hr]
 by_cases h0:vv=0
 ·rw [if_pos h0] at hp
  replace HOK:=aI (HOK.out h0)
  subst h0
  rw [hp]
  clear h s1 s2 s3 a1 b1 b2 b3 b4 b5 b6 hk hl hr hbk hb0 hW0 hN he hz hvv hp
  have hbk:=(T.out.fact (.head _)).2;have z0:=hbk.cell 0;have z1:=hbk.cell 1;have z2:=hbk.cell 2;have z3:=hbk.cell 3;simp at z0 z1 z2 z3;clear hbk
  go_enter Tryz.func20,Tryz.ntmps20
  go_upto_region 1 with fail
  rw [HW0.out,HN.out]
  go_wp2_with (first | (go_at_call 21;((with_reducible refine (CV.out _ T.out.bl).mono ?_));rintro e w2 ⟨rfl,hb2⟩;replace T:=aI (T.out.below hb2);clear hb2 z0 z1 z2 z3;have hbk:=(T.out.fact (.head _)).2;have z0:=hbk.cell 0;have z1:=hbk.cell 1;have z2:=hbk.cell 2;have z3:=hbk.cell 3;simp at z0 z1 z2 z3;clear hbk) | (go_at_call 51;((with_reducible refine (CS.out _ HOK.out T.out.bl).mono ?_));rintro e w2 ⟨rfl,hb2⟩;replace T:=aI (T.out.below hb2);clear hb2 z0 z1 z2 z3))
  go_ret
  exact ⟨rfl,HB.out.trans (T.out.bl.mono HB.out.size)⟩
 ·rw [if_neg h0] at hp
  rw [hp]
  have q1:(vv == 0)=false:=by simpa using h0
  have q2:(vv != 0)=true:=by simpa using h0
  clear h s1 s2 s3 a1 b1 b2 b3 b4 b5 b6 hk hl hr hbk hb0 hW0 hN he hz hvv hp h0
  have hbk:=(T.out.fact (.head _)).2;have z0:=hbk.cell 0;have z1:=hbk.cell 1;have z2:=hbk.cell 2;have z3:=hbk.cell 3;simp at z0 z1 z2 z3;clear hbk
  go_enter Tryz.func20,Tryz.ntmps20
  go_upto_region 1 with fail
  rw [HW0.out,HN.out]
  go_wp2_with (go_at_call 21;((with_reducible refine (CV.out _ T.out.bl).mono ?_));rintro e w2 ⟨rfl,hb2⟩;replace T:=aI (T.out.below hb2);clear hb2 z0 z1 z2 z3;have hbk:=(T.out.fact (.head _)).2;have z0:=hbk.cell 0;have z1:=hbk.cell 1;have z2:=hbk.cell 2;have z3:=hbk.cell 3;simp at z0 z1 z2 z3;clear hbk)
  go_ret
  exact ⟨rfl,HB.out.trans (T.out.bl.mono HB.out.size)⟩
theorem okB_sz {x:Sch} (h:Sx.okB x=true):Sx.Sz x:=by
 have hb:=Sx.okB_bd h
 refine ⟨fun k hk=>⟨by have:=(hb.k k hk).n;omega,fun f hf=>?_⟩,fun l hl=>?_,fun r hr=>?_⟩
 ·have h1:=Sx.fldB_bd ((hb.k k hk).f f hf)
  have:=h1.ns;have:=h1.ws;omega
 ·have h1:=hb.l l hl
  have:=h1.n;have:=h1.m;omega
 ·have h1:=hb.r r hr
  have:=h1.a;have:=h1.b;omega
set_option maxRecDepth 100000 in
set_option maxHeartbeats 16000000 in
theorem lives_any (w:World) (he:SEnv w):Calls Tryz.prog 16 #[] w fun e w'=>e=.returned (.bool true)∧Below w.heap.size w w':=by
 have K1:=aI (fun (W:World) (hb:Below w.heap.size w W)=>show Calls Tryz.prog 13 #[.string ⟨#[115,99,104,101,109,97,32,49,32,107,105,110,100,32,97,32,48,32,57,32,107,101,121,32,105,100,32,53]⟩] W fun e w'=>∃ (A:Option Addr) (c:Nat) (B:Option Addr) (d:Nat) (C:Option Addr) (f:Nat),e=.returned (.tuple #[.agg #[.int .i64 1,.slice A 1 c,.slice B 0 d,.slice C 0 f],.int .i64 0,.int .i64 0])∧Mem.rep [] w' Sx.x1 [.int .i64 1,.slice A 1 c,.slice B 0 d,.slice C 0 f]∧Below W.heap.size W w' from by
  have h:=pparse_any Sx.e1 W (by decide) (he.to hb)
  rw [Sx.e1_parse] at h
  refine h.mono ?_
  rintro e w' ⟨us,h1,h2,h3⟩
  obtain ⟨A,c,B,d,C,f,rfl,_⟩:=rep_sch h2
  exact ⟨A,c,B,d,C,f,h1,h2,h3⟩)
 have K2:=aI (fun (W:World) (hb:Below w.heap.size w W)=>show Calls Tryz.prog 13 #[.string ⟨#[115,99,104,101,109,97,32,49,32,107,105,110,100,32,50]⟩] W fun e w'=>∃ (A:Option Addr) (c:Nat) (B:Option Addr) (d:Nat) (C:Option Addr) (f:Nat),e=.returned (.tuple #[.agg #[.int .i64 0,.slice A 0 c,.slice B 0 d,.slice C 0 f],.int .i64 14,.int .i64 2])∧Mem.rep [] w' Sx.noSch [.int .i64 0,.slice A 0 c,.slice B 0 d,.slice C 0 f]∧Below W.heap.size W w' from by
  have h:=pparse_any Sx.e2 W (by decide) (he.to hb)
  rw [Sx.e2_parse] at h
  refine h.mono ?_
  rintro e w' ⟨us,h1,h2,h3⟩
  obtain ⟨A,c,B,d,C,f,rfl,_⟩:=rep_sch h2
  exact ⟨A,c,B,d,C,f,h1,h2,h3⟩)
 have K3:=aI (fun (W:World) (hb:Below w.heap.size w W)=>show Calls Tryz.prog 13 #[.string ⟨#[115,99,104,101,109,97,32,49,32,107,105,110,100,32,97,32,48]⟩] W fun e w'=>∃ (A:Option Addr) (c:Nat) (B:Option Addr) (d:Nat) (C:Option Addr) (f:Nat),e=.returned (.tuple #[.agg #[.int .i64 0,.slice A 0 c,.slice B 0 d,.slice C 0 f],.int .i64 17,.int .i64 2])∧Mem.rep [] w' Sx.noSch [.int .i64 0,.slice A 0 c,.slice B 0 d,.slice C 0 f]∧Below W.heap.size W w' from by
  have h:=pparse_any Sx.e3 W (by decide) (he.to hb)
  rw [Sx.e3_parse] at h
  refine h.mono ?_
  rintro e w' ⟨us,h1,h2,h3⟩
  obtain ⟨A,c,B,d,C,f,rfl,_⟩:=rep_sch h2
  exact ⟨A,c,B,d,C,f,h1,h2,h3⟩)
 have HSZ:=aI (okB_sz (valid_ok Sx.x1_valid))
 have CV:=aI (fun (W:World) (us:List Value) (hr:Mem.rep [] W Sx.x1 us) (hb:Below w.heap.size w W)=>show Calls Tryz.prog 21 #[.agg us.toArray] W fun e w'=>e=.returned (.int .i64 0)∧Below W.heap.size W w' from by
  have h:=valid_any Sx.x1 us W hr HSZ.out (he.to hb)
  rw [Sx.x1_valid] at h
  exact h)
 have CP:=aI (fun (W:World) (us:List Value) (hr:Mem.rep [] W Sx.x1 us) (hb:Below w.heap.size w W)=>show Calls Tryz.prog 20 #[.agg us.toArray] W fun e w'=>e=.returned (.string ⟨#[115,99,104,101,109,97,32,49,10,107,105,110,100,32,97,32,48,32,57,10,107,101,121,32,105,100,32,53,10]⟩)∧Below W.heap.size W w' from by
  have h:=print_any Sx.x1 us W hr HSZ.out (he.to hb)
  rw [Sx.x1_print] at h
  exact h)
 have T:=aI (held0 w [] (fun _ h=>by cases h))
 clear he
 go_enter Tryz.func16,Tryz.ntmps16
 go_upto_region 2 with (go_at_call 13;((with_reducible refine (K1.out _ T.out.bl).mono ?_));rintro e w1 ⟨A,c,B,d,C,e,rfl,hr,hb⟩;replace T:=aI ((T.out.below hb).add (keeps_rep Sx.x1 _) hr);clear hb hr)
 obtain ⟨N,hN⟩:∃ n,w1.heap.size=n:=⟨_,rfl⟩
 replace T:=aI (T.out.made #[.int .i64 1,.slice A 1 c,.slice B 0 d,.slice C 0 e] 28 hN)
 rw [hN]
 clear hN
 generalize w1.alloc (.cells #[.int .i64 1,.slice A 1 c,.slice B 0 d,.slice C 0 e] 28)=w2 at *
 go_upto_region 3 with (go_at_call 13;go_loud (((with_reducible refine (K2.out _ T.out.bl).mono ?_));rintro e w3 ⟨A2,c2,B2,d2,C2,e2,rfl,hr,hb⟩;replace T:=aI ((T.out.below hb).below ((Below.refl _ _).alloc (Nat.le_refl _) (.cells #[.int .i64 0,.slice A2 0 c2,.slice B2 0 d2,.slice C2 0 e2] 28)));clear hb hr))
 generalize hw4:w3.alloc (.cells #[.int .i64 0,.slice A2 0 c2,.slice B2 0 d2,.slice C2 0 e2] 28)=w4 at *
 clear hw4
 go_upto_region 4 with (go_at_call 13;((with_reducible refine (K3.out _ T.out.bl).mono ?_));rintro e w5 ⟨A3,c3,B3,d3,C3,e3,rfl,hr,hb⟩;replace T:=aI ((T.out.below hb).below ((Below.refl _ _).alloc (Nat.le_refl _) (.cells #[.int .i64 0,.slice A3 0 c3,.slice B3 0 d3,.slice C3 0 e3] 28)));clear hb hr)
 generalize hw6:w5.alloc (.cells #[.int .i64 0,.slice A3 0 c3,.slice B3 0 d3,.slice C3 0 e3] 28)=w6 at *
 clear hw6
 have CV6:=aI (show Calls Tryz.prog 21 #[.agg #[.int .i64 1,.slice A 1 c,.slice B 0 d,.slice C 0 e]] w6 fun e w'=>e=.returned (.int .i64 0)∧Below w6.heap.size w6 w' from CV.out _ _ (T.out.fact (.tail _ (.head _))) T.out.bl)
 have hbk:=(T.out.fact (.head _)).2;have z0:=hbk.cell 0;have z1:=hbk.cell 1;have z2:=hbk.cell 2;have z3:=hbk.cell 3
 simp at z0 z1 z2 z3
 clear hbk
 go_upto_region 6 with (go_at_call 21;((with_reducible refine (CV6.out).mono ?_));rintro e w7 ⟨rfl,hb⟩;replace T:=aI (T.out.below hb);clear hb z0 z1 z2 z3;have hbk:=(T.out.fact (.head _)).2;have z0:=hbk.cell 0;have z1:=hbk.cell 1;have z2:=hbk.cell 2;have z3:=hbk.cell 3;simp at z0 z1 z2 z3;clear hbk)
 have CP7:=aI (show Calls Tryz.prog 20 #[.agg #[.int .i64 1,.slice A 1 c,.slice B 0 d,.slice C 0 e]] w7 fun e w'=>e=.returned (.string ⟨#[115,99,104,101,109,97,32,49,10,107,105,110,100,32,97,32,48,32,57,10,107,101,121,32,105,100,32,53,10]⟩)∧Below w7.heap.size w7 w' from CP.out _ _ (T.out.fact (.tail _ (.head _))) T.out.bl)
 obtain ⟨A9,c9,B9,d9,C9,e9,hus,hs1,_⟩:=rep_sch (T.out.fact (.tail _ (.head _)))
 have hA:A9=A:=by
  injection hus with _ hus
  injection hus with hA _
  injection hA with hA _ _
  exact hA.symm
 clear hus
 subst hA
 obtain ⟨b,o,F,cf,rfl,_,k0,k1,k2,k3,hf,_⟩:=knd_at hs1 0 (Nat.zero_lt_succ 0)
 obtain ⟨b2,o2,F2,cf2,C2,dd2,rfl,_,f0,f1,f2,f3,f4,_⟩:=fld_at hf 0 (Nat.zero_lt_succ 0)
 replace k2:w7.cell? ⟨b,o+2,none⟩=some (.int .i64 9):=k2
 replace k3:w7.cell? ⟨b,o+3,none⟩=some (.slice (some ⟨b2,o2,none⟩) 1 cf):=k3
 replace f0:w7.cell? ⟨b2,o2,none⟩=some (.string ⟨#[105,100]⟩):=f0
 replace f4:w7.cell? ⟨b2,o2+4,none⟩=some (.int .i64 5):=f4
 clear k0 k1 f1 f2 f3 hf hs1
 go_wp2_with (go_at_call 20;((with_reducible refine (CP7.out).mono ?_));rintro e w8 ⟨rfl,hb⟩;replace T:=aI (T.out.below hb);clear hb)
 go_ret
 exact ⟨rfl,T.out.bl⟩
set_option maxRecDepth 100000 in
set_option maxHeartbeats 4000000 in
theorem sDecN_any (u:Nat) (w:World) (h:u < 10000000000):Calls Tryz.prog 68 #[.int .i64 (u:Int)] w fun e w'=>e=.returned (.string ⟨(Lib.decDigits u).toArray⟩)∧Below w.heap.size w w':=by
 induction u using Nat.strongRecOn generalizing w with
 | _ u ih =>
  by_cases h10:u < 10
  ·have b1:decide ((u:Int) < 10)=true:=by simp;omega
   have b0:decide ((u:Int) < 0)=false:=decide_eq_false (by omega)
   obtain ⟨b,hb⟩:∃ b,UInt8.ofNat (48+u)=b:=⟨_,rfl⟩
   have hd:=aI (show Lib.decDigits u=[b] by rw [Lib.decDigits,dif_pos h10,hb])
   have hown:=own_lit (w:=w) (base:=w.heap.size) (e:=5) (.int .u8 (48+(u:Int))) (Nat.le_refl _)
   have hcv:=run_str_own (P:=Tryz.prog) (w.alloc (.cells #[.int .u8 (48+(u:Int))] 5)) 73 9 5 Tryz.underlying73 Tryz.underlying5 Tryz.underlying9 (l:=[b]) (by
    have e:byteVals [b]=[.int .u8 (48+(u:Int))]:=by
     have:=digit_byte u
     rw [Nat.mod_eq_of_lt h10,hb] at this
     simp only [byteVals,List.map_cons,List.map_nil]
     rw [this];congr 2;omega
    rw [e];exact hown)
   clear ih hown hb
   go_enter Tryz.func68,Tryz.ntmps68
   go_wp2
   go_ret
   exact ⟨by rw [hd.out];rfl,(Below.refl _ _).alloc (Nat.le_refl _) _⟩
  ·have b1:decide ((u:Int) < 10)=false:=by simp;omega
   have b0:decide ((u:Int) < 0)=false:=decide_eq_false (by omega)
   obtain ⟨q,hq⟩:∃ q,u / 10=q:=⟨_,rfl⟩
   obtain ⟨b,hb⟩:∃ b,UInt8.ofNat (48+u % 10)=b:=⟨_,rfl⟩
   have hd:=aI (show Lib.decDigits u=Lib.decDigits q++[b] by rw [Lib.decDigits,dif_neg h10,hb,hq])
   obtain ⟨C,hC⟩:∃ C,48+(u:Int) % 10=C:=⟨_,rfl⟩
   have hCb:(b.toNat:Int)=C:=by have:=digit_byte u;rw [hb] at this;omega
   have wC:IntKind.u8.wrap C=C:=by
    have:0≤C∧C≤255:=by omega
    simp only [IntKind.wrap,IntKind.signed,IntKind.bits];simp;omega
   have wC2:IntKind.i64.wrap C=C:=wrapI (by unfold inI;omega)
   have hq1:(u:Int).tdiv 10=(q:Int):=by rw [Int.tdiv_eq_ediv_of_nonneg (by omega)];omega
   have hq2:(u:Int) / 10=(q:Int):=by omega
   have hq3:(u:Int).tmod 10=(u:Int) % 10:=Int.tmod_eq_emod_of_nonneg (by omega)
   have wq:IntKind.i64.wrap (q:Int)=q:=wrapI (by unfold inI;omega)
   have cr:=fun w=>ih q (by omega) w (by omega)
   obtain ⟨t,ht⟩:∃ t:ByteArray,(⟨(Lib.decDigits q).toArray⟩:ByteArray)=t:=⟨_,rfl⟩
   rw [ht] at cr
   have CR:=aI cr
   have HT:=aI ht
   have hts:t.size≤10:=by rw [← ht];exact Dc.decDigits_len q (by omega)
   have hts2:t.size+1 < 9223372036854775808:=by omega
   clear cr ih hb hq h ht
   go_enter Tryz.func68,Tryz.ntmps68
   go_wp2
   apply wp_region_typed (C:=fun w'=>Below w.heap.size w w') (n:=26) (m:=11) (l1:=[_,_,_,_,_,_,_,_,_,_,_]) (l2:=[])
   ·rfl
   ·rfl
   ·kernel_rfl
   ·rfl
   ·kernel_rfl
   ·exact ⟨rfl,rfl,rfl,Nat.le_refl _,fun _ _=>rfl⟩
   ·exact fun u u' h hb=>h.trans (hb.mono h.size)
   iterate 2 ((apply wpT_exact;· (intro w' hC hf;unfold Gives;clear hf hC;go_wp2_with (fail);apply postT_val rfl (Below.refl _ _);simp only [valAt,aA,aE,aC,aD,aH];exact rfl));(try simp only [Act.put,aB,aF,aG]))
   (apply wpT_exact;· (intro w' hC hf;unfold Gives;clear hf hC;go_wp2_with (first | (go_at_call 68;((with_reducible refine (CR.out _).mono ?_));rintro e w2 ⟨rfl,hb2⟩));apply postT_val rfl (by first | exact Below.refl _ _ | assumption);simp only [valAt,aA,aE,aC,aD,aH];exact rfl));(try simp only [Act.put,aB,aF,aG])
   iterate 4 ((apply wpT_exact;· (intro w' hC hf;unfold Gives;clear hf hC;go_wp2_with (fail);apply postT_val rfl (Below.refl _ _);simp only [valAt,aA,aE,aC,aD,aH];exact rfl));(try simp only [Act.put,aB,aF,aG]))
   apply wpT_typed (slB_kept b)
   ·intro w' hC hf;unfold Gives;clear hf hC;go_wp2;apply postT_mk rfl (by go_grown);simp only [valAt,aA,aE,aC,aD,aH]
    have:=own_lit (w:=w') (base:=0) (e:=5) (.int .u8 C) (Nat.zero_le _)
    unfold SlB
    simp only [byteVals,List.map_cons,List.map_nil,hCb]
    exact this
   intro v7;(try simp only [Act.put,aB,aF,aG])
   apply wpT_exact
   ·intro w' hC hf;unfold Gives
    have hcv:=run_str_own (P:=Tryz.prog) w' 73 9 5 Tryz.underlying73 Tryz.underlying5 Tryz.underlying9 (hf.1 rfl)
    clear hf hC;go_wp2_with fail;apply postT_val rfl (Below.refl _ _);simp only [valAt,aA,aE,aC,aD,aH];exact rfl
   (try simp only [Act.put,aB,aF,aG])
   iterate 2 ((apply wpT_exact;· (intro w' hC hf;unfold Gives;clear hf hC;go_wp2_with (fail);apply postT_val rfl (Below.refl _ _);simp only [valAt,aA,aE,aC,aD,aH];exact rfl));(try simp only [Act.put,aB,aF,aG]))
   apply wpT_done
   intro w3 hC _
   go_wp2
   go_ret
   refine ⟨?_,hC⟩
   show Ending.returned (.string (t++(⟨#[b]⟩:ByteArray)))=_
   have e:t++(⟨#[b]⟩:ByteArray)=⟨(Lib.decDigits q++[b]).toArray⟩:=by
    apply ByteArray.ext
    rw [ByteArray.data_append,← HT.out]
    simp
   rw [hd.out,e]
set_option maxHeartbeats 1000000 in
theorem sDecimal_any (n:Int) (w:World) (h:n.natAbs < 10000000000):Calls Tryz.prog 68 #[.int .i64 n] w fun e w'=>e=.returned (.string ⟨(Lib.itoa n).toArray⟩)∧Below w.heap.size w w':=by
 by_cases h0:n < 0
 ·obtain ⟨u,hu⟩:∃ u:Nat,n=-(u:Int):=⟨n.natAbs,by omega⟩
  subst hu
  have hu0:0 < u:=by omega
  have d0:decide (-(u:Int) < 0)=true:=decide_eq_true (by omega)
  have CR:=aI (fun w=>sDecN_any u w (by omega))
  have HV:=aI (itoa_neg u hu0)
  have hlen:=Dc.decDigits_len u (by omega)
  obtain ⟨t,ht⟩:∃ t:ByteArray,(⟨(Lib.decDigits u).toArray⟩:ByteArray)=t:=⟨_,rfl⟩
  rw [ht] at CR
  have HT:=aI ht
  have hts:t.size≤10:=by rw [← ht];exact hlen
  have hneg:IntKind.i64.wrap (- -(u:Int))=(u:Int):=by rw [Int.neg_neg];exact wrapI (by unfold inI;omega)
  clear ht hlen
  go_enter Tryz.func68,Tryz.ntmps68
  go_wp2_with (go_at_call 68;((with_reducible refine (CR.out _).mono ?_));rintro e w2 ⟨rfl,hb2⟩;have HB:=aI hb2;clear hb2)
  go_ret
  refine ⟨?_,HB.out⟩
  rw [HV.out,← HT.out]
  rfl
 ·obtain ⟨u,rfl⟩:=Int.eq_ofNat_of_zero_le (show 0≤n by omega)
  rw [itoa_nat]
  exact sDecN_any u w (by omega)
def andS (s:ByteArray) (n:Int):ByteArray:=s++⟨#[32]⟩++Sx.ofT (Sx.num n)
theorem andS_list (s:ByteArray) (n:Int):(andS s n).data.toList=s.data.toList++32::Sx.num n:=by unfold andS Sx.ofT;simp
theorem andS_size (s:ByteArray) (n:Int) (h:-1000000000≤n∧n≤1000000000):(andS s n).size≤s.size+13:=by
 have h1:=strLen (andS s n)
 rw [andS_list,aK,List.length_cons,strLen] at h1
 have:=Sx.num_len h
 omega
theorem and_any (s:ByteArray) (n:Int) (w:World) (hs:s.size≤100000000) (hn:-1000000000≤n∧n≤1000000000):Calls Tryz.prog 23 #[.string s,.int .i64 n] w fun e w'=>e=.returned (.string (andS s n))∧Below w.heap.size w w':=by
 have CD:=aI (fun w=>sDecimal_any n w (by omega))
 have hl:=Sx.num_len hn
 unfold andS
 obtain ⟨d,hd⟩:∃ d:ByteArray,Sx.ofT (Sx.num n)=d:=⟨_,rfl⟩
 have hds:d.size≤12:=by rw [← hd];unfold Sx.ofT;simpa [ByteArray.size] using hl
 rw [show (⟨(Lib.itoa n).toArray⟩:ByteArray)=d from hd] at CD
 rw [hd]
 clear hd hl hn
 go_enter Tryz.func23,Tryz.ntmps23
 go_wp2_with (go_at_call 68;((with_reducible refine (CD.out _).mono ?_));rintro e w1 ⟨rfl,hb1⟩;have HB:=aI hb1;clear hb1)
 go_ret
 exact ⟨rfl,HB.out⟩
theorem rnamed_any (s:ByteArray) (w:World):Calls Tryz.prog 25 #[.string s] w fun e w'=>e=.returned (.string (Sx.orN s))∧w=w':=by
 unfold Sx.orN
 obtain ⟨e1,e2,e3⟩:=em_spell s
 obtain ⟨r,hr⟩:∃ r,Sx.em s=r:=⟨_,rfl⟩
 rw [hr] at e1 e2 e3 ⊢
 clear hr
 cases r
 ·rw [if_neg (by simp)]
  go_enter Tryz.func25,Tryz.ntmps25
  go_wp2_with fail
  go_ret
  exact ⟨rfl,rfl⟩
 ·rw [if_pos rfl]
  go_enter Tryz.func25,Tryz.ntmps25
  go_wp2_with fail
  go_ret
  exact ⟨rfl,rfl⟩
def usesK (k:Int):Bool × Bool × Bool × Bool × Bool :=
 if k=0 then (false,false,true,false,false) else if k=1 then (true,false,true,true,false) else if k=2 then (false,false,true,true,false) else if k=3 then (false,false,false,false,true)
 else if k=4 then (true,false,true,true,false) else if k=5 then (true,false,true,true,false) else if k=6 then (true,false,false,false,false) else if k=7 then (true,true,true,true,false)
 else if k=8 then (true,true,false,false,false) else (false,false,false,false,false)
theorem uses_any (k:Int) (w:World):Calls Tryz.prog 69 #[.int .i64 k] w fun e w'=>e=.returned (.tuple #[.bool (usesK k).1,.bool (usesK k).2.1,.bool (usesK k).2.2.1,.bool (usesK k).2.2.2.1,.bool (usesK k).2.2.2.2])∧w=w':=by
 by_cases h:k=0∨k=1∨k=2∨k=3∨k=4∨k=5∨k=6∨k=7∨k=8
 ·rcases h with rfl | rfl | rfl | rfl | rfl | rfl | rfl | rfl | rfl <;> (go_enter Tryz.func69,Tryz.ntmps69;go_wp2_with fail;go_returns;exact ⟨rfl,rfl⟩)
 ·have hu:usesK k=(false,false,false,false,false):=by
   unfold usesK
   rw [if_neg (by omega),if_neg (by omega),if_neg (by omega),if_neg (by omega),if_neg (by omega),if_neg (by omega),if_neg (by omega),if_neg (by omega),if_neg (by omega)]
  rw [hu]
  have h0:(k == 0)=false:=beq_eq_false_iff_ne.2 (by omega)
  have h1:(k == 1)=false:=beq_eq_false_iff_ne.2 (by omega)
  have h2:(k == 2)=false:=beq_eq_false_iff_ne.2 (by omega)
  have h3:(k == 3)=false:=beq_eq_false_iff_ne.2 (by omega)
  have h4:(k == 4)=false:=beq_eq_false_iff_ne.2 (by omega)
  have h5:(k == 5)=false:=beq_eq_false_iff_ne.2 (by omega)
  have h6:(k == 6)=false:=beq_eq_false_iff_ne.2 (by omega)
  have h7:(k == 7)=false:=beq_eq_false_iff_ne.2 (by omega)
  have h8:(k == 8)=false:=beq_eq_false_iff_ne.2 (by omega)
  clear h hu
  go_enter Tryz.func69,Tryz.ntmps69
  go_wp2_with fail
  go_returns
  exact ⟨rfl,rfl⟩
def wdR (k:Nat):ByteArray:=Sx.ofT (Sx.wordsL.getD k [])
def WRD:Array Value:=#[.string (wdR 0),.string (wdR 1),.string (wdR 2),.string (wdR 3),.string (wdR 4),.string (wdR 5),.string (wdR 6),.string (wdR 7),.string (wdR 8)]
theorem wrd_get (k:Nat) (h:k < 9):WRD[k]?=some (.string (wdR k)):=by
 rcases (show k=0∨k=1∨k=2∨k=3∨k=4∨k=5∨k=6∨k=7∨k=8 by omega) with rfl | rfl | rfl | rfl | rfl | rfl | rfl | rfl | rfl <;> rfl
theorem rwords_any (w:World):Calls Tryz.prog 70 #[] w fun e w'=>∃ g,e=.returned (.slice (some ⟨g,0,none⟩) 9 9)∧w.heap.size≤g∧Blk w' g 9 WRD∧Below w.heap.size w w':=by
 go_enter Tryz.func70,Tryz.ntmps70
 go_wp2_with fail
 go_ret
 exact ⟨_,rfl,Nat.le_refl _,Blk.new _ _ _,(Below.refl _ _).alloc (Nat.le_refl _) _⟩
end Go.Proofs.YtmplaikgbeeikaaGreatDoor
