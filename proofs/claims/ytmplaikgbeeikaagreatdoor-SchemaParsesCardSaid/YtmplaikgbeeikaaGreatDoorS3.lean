/- Parts of the proof, joined: SxV2, SxL2, SxAt, SxL3, SxL4, SxL5. -/
import Derived.Test.YtmplaikgbeeikaaGreatDoorS2
set_option maxRecDepth 100000
set_option maxHeartbeats 8000000
set_option linter.unusedVariables false
set_option linter.unusedSimpArgs false
set_option linter.unusedSectionVars false
namespace Go.Proofs.YtmplaikgbeeikaaGreatDoor
open Go Go.RowKit
section
theorem em_spell (s:ByteArray):s.toList.isEmpty=Sx.em s/\s.data.toList.isEmpty=Sx.em s/\(s.toList == [])=Sx.em s:=by
 have h:s.data.toList.isEmpty=Sx.em s:=by
  have e:s.data.toList.isEmpty=decide (s.data.toList.length=0):=by cases s.data.toList <;> simp
  rw [e,Vm.strLn];rfl
 refine ⟨by rw [ByteArray.toList_eq];exact h,h,?_⟩
 rw [ByteArray.toList_eq,<-h];cases s.data.toList <;> rfl
theorem isField_0 (nm of_ up:ByteArray) (lo hi:Int) (ws:List ByteArray) (ns:List Int) (us:List Value) (w:World) (h:Mem.rep [] w ((nm,of_,up,0,lo,hi,ws,ns):Fld) us) (hn:Sx.nm nm=true) (hws:ns.length<=1000000):Calls Tryz.prog 113 #[.agg us.toArray] w (BoolP (Sx.fldB ((nm,of_,up,0,lo,hi,ws,ns):Fld)) w):=by
 obtain ⟨A,c,B,d,rfl,s1,s2,a4,a5,a6,a1,a2,a3,b1,b2,e1,e2⟩:=rep_f8 h
 have zI:inI 0:=by constructor <;> decide
 obtain ⟨sm,hsm⟩:=aX (Sx.sameF ((nm,of_,up,0,lo,hi,ws,ns):Fld) ((nm,⟨#[]⟩,⟨#[]⟩,0,lo,0,[],[]):Fld))
 have CS:=aI (fun (W':World) (hb:Below w.heap.size w W')=>sameField_any ((nm,of_,up,0,lo,hi,ws,ns):Fld) ((nm,⟨#[]⟩,⟨#[]⟩,0,lo,0,[],[]):Fld) [.string nm,.string of_,.string up,.int .i64 0,.int .i64 lo,.int .i64 hi,.slice A ws.length c,.slice B ns.length d] [.string nm,.string ⟨#[]⟩,.string ⟨#[]⟩,.int .i64 0,.int .i64 lo,.int .i64 0,.slice none 0 0,.slice none 0 0] W' (Mem.keep h (Chg.of_below hb)) (fld_rep a1 empty_size empty_size a4 a5 zI .nil .nil (ag _) (Nat.zero_le _) (ag _) (Nat.zero_le _)))
 rw [hsm] at CS
 have CN:=aI (fun w=>isName_any nm w a1)
 rw [hn] at CN
 have C1:=aI (within_any lo (-1048576) 1048576)
 obtain ⟨q1,hq1⟩:=aX (Sx.within lo (-1048576) 1048576)
 rw [hq1] at C1
 have HF:=aI (show Sx.fldB ((nm,of_,up,0,lo,hi,ws,ns):Fld)=(sm && q1) by
  have ho:Sx.only ((nm,of_,up,0,lo,hi,ws,ns):Fld)=((nm,⟨#[]⟩,⟨#[]⟩,0,lo,0,[],[]):Fld):=by rw [only_eq];rfl
  rw [Sx.fldB_is,ho,hsm]
  show (Sx.nm nm && (sm && Sx.swB ((nm,of_,up,0,lo,hi,ws,ns):Fld)))=_
  rw [hn,<-hq1]
  rw [show Sx.swB ((nm,of_,up,0,lo,hi,ws,ns):Fld)=Sx.within lo (-1048576) 1048576 from rfl]
  rfl)
 have CO:=aI (fun w=>only_0 nm of_ up lo hi A B ws.length ns.length c d w)
 obtain ⟨W1,hW1,HB,hbk⟩:=aW w #[.string nm,.string of_,.string up,.int .i64 0,.int .i64 lo,.int .i64 hi,.slice A ws.length c,.slice B ns.length d] 52
 have HBK:=aI hbk
 obtain ⟨c0,c1,c2,c3,c4,c5,c6,c7⟩:=aN8 hbk.cell
 simp at c0 c1 c2 c3 c4 c5 c6 c7
 have HC:=aI (fun (W':World) (hb:Below W1.heap.size W1 W')=>(hb.block w.heap.size hbk.lt))
 have HW1:=aI hW1
 show Calls Tryz.prog 113 #[.agg #[.string nm,.string of_,.string up,.int .i64 0,.int .i64 lo,.int .i64 hi,.slice A ws.length c,.slice B ns.length d]] w _
 clear h s1 s2 a1 a2 a3 a4 a5 a6 b1 b2 e1 e2 hn hbk hW1 hsm hws zI hq1
 generalize Sx.fldB ((nm,of_,up,0,lo,hi,ws,ns):Fld)=fb at *
 generalize ws.length=wl at *
 generalize ns.length=nl at *
 obtain ⟨N,hN⟩:=aX w.heap.size
 go_enter Tryz.func113,Tryz.ntmps113
 go_wp2_with fail
 rw [HW1.out]
 (try rw [hN] at c0 c1 c2 c3 c4 c5 c6 c7)
 have cl0:=fun d os=>cell_regrown c0 d os;have cl1:=fun d os=>cell_regrown c1 d os;have cl2:=fun d os=>cell_regrown c2 d os;have cl3:=fun d os=>cell_regrown c3 d os;have cl4:=fun d os=>cell_regrown c4 d os;have cl5:=fun d os=>cell_regrown c5 d os;have cl6:=fun d os=>cell_regrown c6 d os;have cl7:=fun d os=>cell_regrown c7 d os
 refine wp_region_quiet_below (by kernel_rfl) (by kernel_rfl) ?_
 repeat (quiet_step (first | (go_at_call 110;exact Calls.regrown_of (CN.out _)) | (go_at_call 143;exact Calls.regrown_of (CO.out _)) | (go_at_call 62;exact Calls.regrown_of (CS.out _ (HB.out.trans ((below_regrown _ _ _).mono HB.out.size))))))
 refine wpQuiet_nil ?_
 intro _ hw'
 obtain ⟨⟨dq,osq⟩,rfl⟩:=hw'
 have hb4:=below_regrown W1 dq osq
 clear cl0 cl1 cl2 cl3 cl4 cl5 cl6 cl7
 generalize Sort.grow (redrawn W1 dq) osq=w4 at hb4 ⊢
 have HB1:=aI hb4
 have hbk:Blk w4 N 52 #[.string nm,.string of_,.string up,.int .i64 0,.int .i64 lo,.int .i64 hi,.slice A wl c,.slice B nl d]:=by rw [<-hN];exact HBK.out.below hb4 HBK.out.lt
 clear c0 c1 c2 c3 c4 c5 c6 c7 hb4
 have HBQ:=aI hbk
 obtain ⟨c0,c1,c2,c3,c4,c5,c6,c7⟩:=aN8 hbk.cell
 simp at c0 c1 c2 c3 c4 c5 c6 c7
 clear hbk
 cases sm
 ·go_wp2_with fail
  go_ret
  exact ⟨by rw [HF.out];rfl,HB.out.trans (HB1.out.mono HB.out.size)⟩
 ·(go_wp2_with (first | (go_at_call 52;(with_reducible refine aS (C1.out _) ?_)));go_ret;exact ⟨by rw [HF.out];first | rfl | (cases q1 <;> rfl),HB.out.trans (HB1.out.mono HB.out.size)⟩)
theorem isField_1 (nm of_ up:ByteArray) (lo hi:Int) (ws:List ByteArray) (ns:List Int) (us:List Value) (w:World) (h:Mem.rep [] w ((nm,of_,up,1,lo,hi,ws,ns):Fld) us) (hn:Sx.nm nm=true) (hws:ns.length<=1000000):Calls Tryz.prog 113 #[.agg us.toArray] w (BoolP (Sx.fldB ((nm,of_,up,1,lo,hi,ws,ns):Fld)) w):=by
 obtain ⟨A,c,B,d,rfl,s1,s2,a4,a5,a6,a1,a2,a3,b1,b2,e1,e2⟩:=rep_f8 h
 have zI:inI 0:=by constructor <;> decide
 obtain ⟨sm,hsm⟩:=aX (Sx.sameF ((nm,of_,up,1,lo,hi,ws,ns):Fld) ((nm,of_,⟨#[]⟩,1,lo,hi,[],[]):Fld))
 have CS:=aI (fun (W':World) (hb:Below w.heap.size w W')=>sameField_any ((nm,of_,up,1,lo,hi,ws,ns):Fld) ((nm,of_,⟨#[]⟩,1,lo,hi,[],[]):Fld) [.string nm,.string of_,.string up,.int .i64 1,.int .i64 lo,.int .i64 hi,.slice A ws.length c,.slice B ns.length d] [.string nm,.string of_,.string ⟨#[]⟩,.int .i64 1,.int .i64 lo,.int .i64 hi,.slice none 0 0,.slice none 0 0] W' (Mem.keep h (Chg.of_below hb)) (fld_rep a1 a2 empty_size a4 a5 a6 .nil .nil (ag _) (Nat.zero_le _) (ag _) (Nat.zero_le _)))
 rw [hsm] at CS
 have CN:=aI (fun w=>isName_any nm w a1)
 rw [hn] at CN
 have C1:=aI (fun w=>isName_any of_ w a2)
 obtain ⟨q1,hq1⟩:=aX (Sx.nm of_)
 rw [hq1] at C1
 have C2:=aI (span_any lo hi 0 65536)
 obtain ⟨q2,hq2⟩:=aX (Sx.span lo hi 0 65536)
 rw [hq2] at C2
 have HF:=aI (show Sx.fldB ((nm,of_,up,1,lo,hi,ws,ns):Fld)=(sm && (q1 && q2)) by
  have ho:Sx.only ((nm,of_,up,1,lo,hi,ws,ns):Fld)=((nm,of_,⟨#[]⟩,1,lo,hi,[],[]):Fld):=by rw [only_eq];rfl
  rw [Sx.fldB_is,ho,hsm]
  show (Sx.nm nm && (sm && Sx.swB ((nm,of_,up,1,lo,hi,ws,ns):Fld)))=_
  rw [hn,<-hq2,<-hq1]
  rw [show Sx.swB ((nm,of_,up,1,lo,hi,ws,ns):Fld)=(Sx.nm of_ && Sx.span lo hi 0 65536) from rfl]
  rfl)
 have CO:=aI (fun w=>only_1 nm of_ up lo hi A B ws.length ns.length c d w)
 obtain ⟨W1,hW1,HB,hbk⟩:=aW w #[.string nm,.string of_,.string up,.int .i64 1,.int .i64 lo,.int .i64 hi,.slice A ws.length c,.slice B ns.length d] 52
 have HBK:=aI hbk
 obtain ⟨c0,c1,c2,c3,c4,c5,c6,c7⟩:=aN8 hbk.cell
 simp at c0 c1 c2 c3 c4 c5 c6 c7
 have HC:=aI (fun (W':World) (hb:Below W1.heap.size W1 W')=>(hb.block w.heap.size hbk.lt))
 have HW1:=aI hW1
 show Calls Tryz.prog 113 #[.agg #[.string nm,.string of_,.string up,.int .i64 1,.int .i64 lo,.int .i64 hi,.slice A ws.length c,.slice B ns.length d]] w _
 clear h s1 s2 a1 a2 a3 a4 a5 a6 b1 b2 e1 e2 hn hbk hW1 hsm hws zI hq1 hq2
 generalize Sx.fldB ((nm,of_,up,1,lo,hi,ws,ns):Fld)=fb at *
 generalize ws.length=wl at *
 generalize ns.length=nl at *
 obtain ⟨N,hN⟩:=aX w.heap.size
 go_enter Tryz.func113,Tryz.ntmps113
 go_wp2_with fail
 rw [HW1.out]
 (try rw [hN] at c0 c1 c2 c3 c4 c5 c6 c7)
 have cl0:=fun d os=>cell_regrown c0 d os;have cl1:=fun d os=>cell_regrown c1 d os;have cl2:=fun d os=>cell_regrown c2 d os;have cl3:=fun d os=>cell_regrown c3 d os;have cl4:=fun d os=>cell_regrown c4 d os;have cl5:=fun d os=>cell_regrown c5 d os;have cl6:=fun d os=>cell_regrown c6 d os;have cl7:=fun d os=>cell_regrown c7 d os
 refine wp_region_quiet_below (by kernel_rfl) (by kernel_rfl) ?_
 repeat (quiet_step (first | (go_at_call 110;exact Calls.regrown_of (CN.out _)) | (go_at_call 143;exact Calls.regrown_of (CO.out _)) | (go_at_call 62;exact Calls.regrown_of (CS.out _ (HB.out.trans ((below_regrown _ _ _).mono HB.out.size))))))
 refine wpQuiet_nil ?_
 intro _ hw'
 obtain ⟨⟨dq,osq⟩,rfl⟩:=hw'
 have hb4:=below_regrown W1 dq osq
 clear cl0 cl1 cl2 cl3 cl4 cl5 cl6 cl7
 generalize Sort.grow (redrawn W1 dq) osq=w4 at hb4 ⊢
 have HB1:=aI hb4
 have hbk:Blk w4 N 52 #[.string nm,.string of_,.string up,.int .i64 1,.int .i64 lo,.int .i64 hi,.slice A wl c,.slice B nl d]:=by rw [<-hN];exact HBK.out.below hb4 HBK.out.lt
 clear c0 c1 c2 c3 c4 c5 c6 c7 hb4
 have HBQ:=aI hbk
 obtain ⟨c0,c1,c2,c3,c4,c5,c6,c7⟩:=aN8 hbk.cell
 simp at c0 c1 c2 c3 c4 c5 c6 c7
 clear hbk
 cases sm
 ·go_wp2_with fail
  go_ret
  exact ⟨by rw [HF.out];rfl,HB.out.trans (HB1.out.mono HB.out.size)⟩
 ·cases q1 <;> (go_wp2_with (first | (go_at_call 110;(with_reducible refine (C1.out _).mono ?_);rintro e w2 ⟨rfl,hb2⟩;have HB1:=aI (HB1.out.trans (hb2.mono HB1.out.size));have hbk:=HBQ.out.below hb2 HBQ.out.lt;have HBQ:=aI hbk;obtain ⟨c0,c1,c2,c3,c4,c5,c6,c7⟩:=aN8 hbk.cell;simp at c0 c1 c2 c3 c4 c5 c6 c7;clear hbk hb2) | (go_at_call 111;(with_reducible refine aS (C2.out _) ?_)));go_ret;exact ⟨by rw [HF.out];first | rfl | (cases q2 <;> rfl),HB.out.trans (HB1.out.mono HB.out.size)⟩)
theorem isField_2 (nm of_ up:ByteArray) (lo hi:Int) (ws:List ByteArray) (ns:List Int) (us:List Value) (w:World) (h:Mem.rep [] w ((nm,of_,up,2,lo,hi,ws,ns):Fld) us) (hn:Sx.nm nm=true) (hws:ns.length<=1000000):Calls Tryz.prog 113 #[.agg us.toArray] w (BoolP (Sx.fldB ((nm,of_,up,2,lo,hi,ws,ns):Fld)) w):=by
 obtain ⟨A,c,B,d,rfl,s1,s2,a4,a5,a6,a1,a2,a3,b1,b2,e1,e2⟩:=rep_f8 h
 have zI:inI 0:=by constructor <;> decide
 obtain ⟨sm,hsm⟩:=aX (Sx.sameF ((nm,of_,up,2,lo,hi,ws,ns):Fld) ((nm,⟨#[]⟩,⟨#[]⟩,2,lo,hi,[],[]):Fld))
 have CS:=aI (fun (W':World) (hb:Below w.heap.size w W')=>sameField_any ((nm,of_,up,2,lo,hi,ws,ns):Fld) ((nm,⟨#[]⟩,⟨#[]⟩,2,lo,hi,[],[]):Fld) [.string nm,.string of_,.string up,.int .i64 2,.int .i64 lo,.int .i64 hi,.slice A ws.length c,.slice B ns.length d] [.string nm,.string ⟨#[]⟩,.string ⟨#[]⟩,.int .i64 2,.int .i64 lo,.int .i64 hi,.slice none 0 0,.slice none 0 0] W' (Mem.keep h (Chg.of_below hb)) (fld_rep a1 empty_size empty_size a4 a5 a6 .nil .nil (ag _) (Nat.zero_le _) (ag _) (Nat.zero_le _)))
 rw [hsm] at CS
 have CN:=aI (fun w=>isName_any nm w a1)
 rw [hn] at CN
 have C1:=aI (span_any lo hi (-1048576) 1048576)
 obtain ⟨q1,hq1⟩:=aX (Sx.span lo hi (-1048576) 1048576)
 rw [hq1] at C1
 have HF:=aI (show Sx.fldB ((nm,of_,up,2,lo,hi,ws,ns):Fld)=(sm && q1) by
  have ho:Sx.only ((nm,of_,up,2,lo,hi,ws,ns):Fld)=((nm,⟨#[]⟩,⟨#[]⟩,2,lo,hi,[],[]):Fld):=by rw [only_eq];rfl
  rw [Sx.fldB_is,ho,hsm]
  show (Sx.nm nm && (sm && Sx.swB ((nm,of_,up,2,lo,hi,ws,ns):Fld)))=_
  rw [hn,<-hq1]
  rw [show Sx.swB ((nm,of_,up,2,lo,hi,ws,ns):Fld)=Sx.span lo hi (-1048576) 1048576 from rfl]
  rfl)
 have CO:=aI (fun w=>only_2 nm of_ up lo hi A B ws.length ns.length c d w)
 obtain ⟨W1,hW1,HB,hbk⟩:=aW w #[.string nm,.string of_,.string up,.int .i64 2,.int .i64 lo,.int .i64 hi,.slice A ws.length c,.slice B ns.length d] 52
 have HBK:=aI hbk
 obtain ⟨c0,c1,c2,c3,c4,c5,c6,c7⟩:=aN8 hbk.cell
 simp at c0 c1 c2 c3 c4 c5 c6 c7
 have HC:=aI (fun (W':World) (hb:Below W1.heap.size W1 W')=>(hb.block w.heap.size hbk.lt))
 have HW1:=aI hW1
 show Calls Tryz.prog 113 #[.agg #[.string nm,.string of_,.string up,.int .i64 2,.int .i64 lo,.int .i64 hi,.slice A ws.length c,.slice B ns.length d]] w _
 clear h s1 s2 a1 a2 a3 a4 a5 a6 b1 b2 e1 e2 hn hbk hW1 hsm hws zI hq1
 generalize Sx.fldB ((nm,of_,up,2,lo,hi,ws,ns):Fld)=fb at *
 generalize ws.length=wl at *
 generalize ns.length=nl at *
 obtain ⟨N,hN⟩:=aX w.heap.size
 go_enter Tryz.func113,Tryz.ntmps113
 go_wp2_with fail
 rw [HW1.out]
 (try rw [hN] at c0 c1 c2 c3 c4 c5 c6 c7)
 have cl0:=fun d os=>cell_regrown c0 d os;have cl1:=fun d os=>cell_regrown c1 d os;have cl2:=fun d os=>cell_regrown c2 d os;have cl3:=fun d os=>cell_regrown c3 d os;have cl4:=fun d os=>cell_regrown c4 d os;have cl5:=fun d os=>cell_regrown c5 d os;have cl6:=fun d os=>cell_regrown c6 d os;have cl7:=fun d os=>cell_regrown c7 d os
 refine wp_region_quiet_below (by kernel_rfl) (by kernel_rfl) ?_
 repeat (quiet_step (first | (go_at_call 110;exact Calls.regrown_of (CN.out _)) | (go_at_call 143;exact Calls.regrown_of (CO.out _)) | (go_at_call 62;exact Calls.regrown_of (CS.out _ (HB.out.trans ((below_regrown _ _ _).mono HB.out.size))))))
 refine wpQuiet_nil ?_
 intro _ hw'
 obtain ⟨⟨dq,osq⟩,rfl⟩:=hw'
 have hb4:=below_regrown W1 dq osq
 clear cl0 cl1 cl2 cl3 cl4 cl5 cl6 cl7
 generalize Sort.grow (redrawn W1 dq) osq=w4 at hb4 ⊢
 have HB1:=aI hb4
 have hbk:Blk w4 N 52 #[.string nm,.string of_,.string up,.int .i64 2,.int .i64 lo,.int .i64 hi,.slice A wl c,.slice B nl d]:=by rw [<-hN];exact HBK.out.below hb4 HBK.out.lt
 clear c0 c1 c2 c3 c4 c5 c6 c7 hb4
 have HBQ:=aI hbk
 obtain ⟨c0,c1,c2,c3,c4,c5,c6,c7⟩:=aN8 hbk.cell
 simp at c0 c1 c2 c3 c4 c5 c6 c7
 clear hbk
 cases sm
 ·go_wp2_with fail
  go_ret
  exact ⟨by rw [HF.out];rfl,HB.out.trans (HB1.out.mono HB.out.size)⟩
 ·(go_wp2_with (first | (go_at_call 111;(with_reducible refine aS (C1.out _) ?_)));go_ret;exact ⟨by rw [HF.out];first | rfl | (cases q1 <;> rfl),HB.out.trans (HB1.out.mono HB.out.size)⟩)
theorem isField_3 (nm of_ up:ByteArray) (lo hi:Int) (ws:List ByteArray) (ns:List Int) (us:List Value) (w:World) (h:Mem.rep [] w ((nm,of_,up,3,lo,hi,ws,ns):Fld) us) (hn:Sx.nm nm=true) (hws:ns.length<=1000000):Calls Tryz.prog 113 #[.agg us.toArray] w (BoolP (Sx.fldB ((nm,of_,up,3,lo,hi,ws,ns):Fld)) w):=by
 obtain ⟨A,c,B,d,rfl,s1,s2,a4,a5,a6,a1,a2,a3,b1,b2,e1,e2⟩:=rep_f8 h
 have zI:inI 0:=by constructor <;> decide
 obtain ⟨sm,hsm⟩:=aX (Sx.sameF ((nm,of_,up,3,lo,hi,ws,ns):Fld) ((nm,⟨#[]⟩,⟨#[]⟩,3,0,0,ws,ns):Fld))
 have CS:=aI (fun (W':World) (hb:Below w.heap.size w W')=>sameField_any ((nm,of_,up,3,lo,hi,ws,ns):Fld) ((nm,⟨#[]⟩,⟨#[]⟩,3,0,0,ws,ns):Fld) [.string nm,.string of_,.string up,.int .i64 3,.int .i64 lo,.int .i64 hi,.slice A ws.length c,.slice B ns.length d] [.string nm,.string ⟨#[]⟩,.string ⟨#[]⟩,.int .i64 3,.int .i64 0,.int .i64 0,.slice A ws.length c,.slice B ns.length d] W' (Mem.keep h (Chg.of_below hb)) (fld_rep a1 empty_size empty_size a4 zI zI (s1.keep (Chg.of_below hb)) (s2.keep (Chg.of_below hb)) b1 b2 e1 e2))
 rw [hsm] at CS
 have CN:=aI (fun w=>isName_any nm w a1)
 rw [hn] at CN
 have C1:=aI (fun (W':World) (hb:Below w.heap.size w W')=>isPick_any ws ns A B c d W' (s1.keep (Chg.of_below hb)) (s2.keep (Chg.of_below hb)) (by omega) hws)
 obtain ⟨q1,hq1⟩:=aX (Sx.pickB ws ns)
 rw [hq1] at C1
 have HF:=aI (show Sx.fldB ((nm,of_,up,3,lo,hi,ws,ns):Fld)=(sm && q1) by
  have ho:Sx.only ((nm,of_,up,3,lo,hi,ws,ns):Fld)=((nm,⟨#[]⟩,⟨#[]⟩,3,0,0,ws,ns):Fld):=by rw [only_eq];rfl
  rw [Sx.fldB_is,ho,hsm]
  show (Sx.nm nm && (sm && Sx.swB ((nm,of_,up,3,lo,hi,ws,ns):Fld)))=_
  rw [hn,<-hq1]
  rw [show Sx.swB ((nm,of_,up,3,lo,hi,ws,ns):Fld)=Sx.pickB ws ns from rfl]
  rfl)
 have CO:=aI (fun w=>only_3 nm of_ up lo hi A B ws.length ns.length c d w)
 obtain ⟨W1,hW1,HB,hbk⟩:=aW w #[.string nm,.string of_,.string up,.int .i64 3,.int .i64 lo,.int .i64 hi,.slice A ws.length c,.slice B ns.length d] 52
 have HBK:=aI hbk
 obtain ⟨c0,c1,c2,c3,c4,c5,c6,c7⟩:=aN8 hbk.cell
 simp at c0 c1 c2 c3 c4 c5 c6 c7
 have HC:=aI (fun (W':World) (hb:Below W1.heap.size W1 W')=>(hb.block w.heap.size hbk.lt))
 have HW1:=aI hW1
 show Calls Tryz.prog 113 #[.agg #[.string nm,.string of_,.string up,.int .i64 3,.int .i64 lo,.int .i64 hi,.slice A ws.length c,.slice B ns.length d]] w _
 clear h s1 s2 a1 a2 a3 a4 a5 a6 b1 b2 e1 e2 hn hbk hW1 hsm hws zI hq1
 generalize Sx.fldB ((nm,of_,up,3,lo,hi,ws,ns):Fld)=fb at *
 generalize ws.length=wl at *
 generalize ns.length=nl at *
 obtain ⟨N,hN⟩:=aX w.heap.size
 go_enter Tryz.func113,Tryz.ntmps113
 go_wp2_with fail
 rw [HW1.out]
 (try rw [hN] at c0 c1 c2 c3 c4 c5 c6 c7)
 have cl0:=fun d os=>cell_regrown c0 d os;have cl1:=fun d os=>cell_regrown c1 d os;have cl2:=fun d os=>cell_regrown c2 d os;have cl3:=fun d os=>cell_regrown c3 d os;have cl4:=fun d os=>cell_regrown c4 d os;have cl5:=fun d os=>cell_regrown c5 d os;have cl6:=fun d os=>cell_regrown c6 d os;have cl7:=fun d os=>cell_regrown c7 d os
 refine wp_region_quiet_below (by kernel_rfl) (by kernel_rfl) ?_
 repeat (quiet_step (first | (go_at_call 110;exact Calls.regrown_of (CN.out _)) | (go_at_call 143;exact Calls.regrown_of (CO.out _)) | (go_at_call 62;exact Calls.regrown_of (CS.out _ (HB.out.trans ((below_regrown _ _ _).mono HB.out.size))))))
 refine wpQuiet_nil ?_
 intro _ hw'
 obtain ⟨⟨dq,osq⟩,rfl⟩:=hw'
 have hb4:=below_regrown W1 dq osq
 clear cl0 cl1 cl2 cl3 cl4 cl5 cl6 cl7
 generalize Sort.grow (redrawn W1 dq) osq=w4 at hb4 ⊢
 have HB1:=aI hb4
 have hbk:Blk w4 N 52 #[.string nm,.string of_,.string up,.int .i64 3,.int .i64 lo,.int .i64 hi,.slice A wl c,.slice B nl d]:=by rw [<-hN];exact HBK.out.below hb4 HBK.out.lt
 clear c0 c1 c2 c3 c4 c5 c6 c7 hb4
 have HBQ:=aI hbk
 obtain ⟨c0,c1,c2,c3,c4,c5,c6,c7⟩:=aN8 hbk.cell
 simp at c0 c1 c2 c3 c4 c5 c6 c7
 clear hbk
 cases sm
 ·go_wp2_with fail
  go_ret
  exact ⟨by rw [HF.out];rfl,HB.out.trans (HB1.out.mono HB.out.size)⟩
 ·(go_wp2_with (first | (go_at_call 144;(with_reducible refine (C1.out _ (HB.out.trans (HB1.out.mono HB.out.size))).mono ?_);rintro e w2 ⟨rfl,hb2⟩;have HB1:=aI (HB1.out.trans (hb2.mono HB1.out.size));have hbk:=HBQ.out.below hb2 HBQ.out.lt;have HBQ:=aI hbk;obtain ⟨c0,c1,c2,c3,c4,c5,c6,c7⟩:=aN8 hbk.cell;simp at c0 c1 c2 c3 c4 c5 c6 c7;clear hbk hb2));go_ret;exact ⟨by rw [HF.out];first | rfl | (cases q1 <;> rfl),HB.out.trans (HB1.out.mono HB.out.size)⟩)
theorem isField_4 (nm of_ up:ByteArray) (lo hi:Int) (ws:List ByteArray) (ns:List Int) (us:List Value) (w:World) (h:Mem.rep [] w ((nm,of_,up,4,lo,hi,ws,ns):Fld) us) (hn:Sx.nm nm=true) (hws:ns.length<=1000000):Calls Tryz.prog 113 #[.agg us.toArray] w (BoolP (Sx.fldB ((nm,of_,up,4,lo,hi,ws,ns):Fld)) w):=by
 obtain ⟨A,c,B,d,rfl,s1,s2,a4,a5,a6,a1,a2,a3,b1,b2,e1,e2⟩:=rep_f8 h
 have zI:inI 0:=by constructor <;> decide
 obtain ⟨sm,hsm⟩:=aX (Sx.sameF ((nm,of_,up,4,lo,hi,ws,ns):Fld) ((nm,of_,⟨#[]⟩,4,lo,hi,[],[]):Fld))
 have CS:=aI (fun (W':World) (hb:Below w.heap.size w W')=>sameField_any ((nm,of_,up,4,lo,hi,ws,ns):Fld) ((nm,of_,⟨#[]⟩,4,lo,hi,[],[]):Fld) [.string nm,.string of_,.string up,.int .i64 4,.int .i64 lo,.int .i64 hi,.slice A ws.length c,.slice B ns.length d] [.string nm,.string of_,.string ⟨#[]⟩,.int .i64 4,.int .i64 lo,.int .i64 hi,.slice none 0 0,.slice none 0 0] W' (Mem.keep h (Chg.of_below hb)) (fld_rep a1 a2 empty_size a4 a5 a6 .nil .nil (ag _) (Nat.zero_le _) (ag _) (Nat.zero_le _)))
 rw [hsm] at CS
 have CN:=aI (fun w=>isName_any nm w a1)
 rw [hn] at CN
 have C1:=aI (fun w=>isName_any of_ w a2)
 obtain ⟨be,hbe⟩:=aX (Sx.em of_)
 obtain ⟨y1,y2,y3⟩:=em_spell of_
 rw [hbe] at y1 y2 y3
 obtain ⟨q1,hq1⟩:=aX (Sx.nm of_)
 rw [hq1] at C1
 have C2:=aI (span_any lo hi (-1048576) 1048576)
 obtain ⟨q2,hq2⟩:=aX (Sx.span lo hi (-1048576) 1048576)
 rw [hq2] at C2
 have HF:=aI (show Sx.fldB ((nm,of_,up,4,lo,hi,ws,ns):Fld)=(sm && ((be || q1) && q2)) by
  have ho:Sx.only ((nm,of_,up,4,lo,hi,ws,ns):Fld)=((nm,of_,⟨#[]⟩,4,lo,hi,[],[]):Fld):=by rw [only_eq];rfl
  rw [Sx.fldB_is,ho,hsm]
  show (Sx.nm nm && (sm && Sx.swB ((nm,of_,up,4,lo,hi,ws,ns):Fld)))=_
  rw [hn,<-hq2,<-hq1,<-hbe]
  rw [show Sx.swB ((nm,of_,up,4,lo,hi,ws,ns):Fld)=((Sx.em of_ || Sx.nm of_) && Sx.span lo hi (-1048576) 1048576) from rfl]
  rfl)
 have CO:=aI (fun w=>only_4 nm of_ up lo hi A B ws.length ns.length c d w)
 obtain ⟨W1,hW1,HB,hbk⟩:=aW w #[.string nm,.string of_,.string up,.int .i64 4,.int .i64 lo,.int .i64 hi,.slice A ws.length c,.slice B ns.length d] 52
 have HBK:=aI hbk
 obtain ⟨c0,c1,c2,c3,c4,c5,c6,c7⟩:=aN8 hbk.cell
 simp at c0 c1 c2 c3 c4 c5 c6 c7
 have HC:=aI (fun (W':World) (hb:Below W1.heap.size W1 W')=>(hb.block w.heap.size hbk.lt))
 have HW1:=aI hW1
 show Calls Tryz.prog 113 #[.agg #[.string nm,.string of_,.string up,.int .i64 4,.int .i64 lo,.int .i64 hi,.slice A ws.length c,.slice B ns.length d]] w _
 clear h s1 s2 a1 a2 a3 a4 a5 a6 b1 b2 e1 e2 hn hbk hW1 hsm hws zI hbe hq1 hq2
 generalize Sx.fldB ((nm,of_,up,4,lo,hi,ws,ns):Fld)=fb at *
 generalize ws.length=wl at *
 generalize ns.length=nl at *
 obtain ⟨N,hN⟩:=aX w.heap.size
 go_enter Tryz.func113,Tryz.ntmps113
 go_wp2_with fail
 rw [HW1.out]
 (try rw [hN] at c0 c1 c2 c3 c4 c5 c6 c7)
 have cl0:=fun d os=>cell_regrown c0 d os;have cl1:=fun d os=>cell_regrown c1 d os;have cl2:=fun d os=>cell_regrown c2 d os;have cl3:=fun d os=>cell_regrown c3 d os;have cl4:=fun d os=>cell_regrown c4 d os;have cl5:=fun d os=>cell_regrown c5 d os;have cl6:=fun d os=>cell_regrown c6 d os;have cl7:=fun d os=>cell_regrown c7 d os
 refine wp_region_quiet_below (by kernel_rfl) (by kernel_rfl) ?_
 repeat (quiet_step (first | (go_at_call 110;exact Calls.regrown_of (CN.out _)) | (go_at_call 143;exact Calls.regrown_of (CO.out _)) | (go_at_call 62;exact Calls.regrown_of (CS.out _ (HB.out.trans ((below_regrown _ _ _).mono HB.out.size))))))
 refine wpQuiet_nil ?_
 intro _ hw'
 obtain ⟨⟨dq,osq⟩,rfl⟩:=hw'
 have hb4:=below_regrown W1 dq osq
 clear cl0 cl1 cl2 cl3 cl4 cl5 cl6 cl7
 generalize Sort.grow (redrawn W1 dq) osq=w4 at hb4 ⊢
 have HB1:=aI hb4
 have hbk:Blk w4 N 52 #[.string nm,.string of_,.string up,.int .i64 4,.int .i64 lo,.int .i64 hi,.slice A wl c,.slice B nl d]:=by rw [<-hN];exact HBK.out.below hb4 HBK.out.lt
 clear c0 c1 c2 c3 c4 c5 c6 c7 hb4
 have HBQ:=aI hbk
 obtain ⟨c0,c1,c2,c3,c4,c5,c6,c7⟩:=aN8 hbk.cell
 simp at c0 c1 c2 c3 c4 c5 c6 c7
 clear hbk
 cases sm
 ·go_wp2_with fail
  go_ret
  exact ⟨by rw [HF.out];rfl,HB.out.trans (HB1.out.mono HB.out.size)⟩
 ·cases be <;> cases q1 <;> (go_wp2_with (first | (go_at_call 110;(with_reducible refine (C1.out _).mono ?_);rintro e w2 ⟨rfl,hb2⟩;have HB1:=aI (HB1.out.trans (hb2.mono HB1.out.size));have hbk:=HBQ.out.below hb2 HBQ.out.lt;have HBQ:=aI hbk;obtain ⟨c0,c1,c2,c3,c4,c5,c6,c7⟩:=aN8 hbk.cell;simp at c0 c1 c2 c3 c4 c5 c6 c7;clear hbk hb2) | (go_at_call 111;(with_reducible refine aS (C2.out _) ?_)));go_ret;exact ⟨by rw [HF.out];first | rfl | (cases q2 <;> rfl),HB.out.trans (HB1.out.mono HB.out.size)⟩)
theorem isField_5 (nm of_ up:ByteArray) (lo hi:Int) (ws:List ByteArray) (ns:List Int) (us:List Value) (w:World) (h:Mem.rep [] w ((nm,of_,up,5,lo,hi,ws,ns):Fld) us) (hn:Sx.nm nm=true) (hws:ns.length<=1000000):Calls Tryz.prog 113 #[.agg us.toArray] w (BoolP (Sx.fldB ((nm,of_,up,5,lo,hi,ws,ns):Fld)) w):=by
 obtain ⟨A,c,B,d,rfl,s1,s2,a4,a5,a6,a1,a2,a3,b1,b2,e1,e2⟩:=rep_f8 h
 have zI:inI 0:=by constructor <;> decide
 obtain ⟨sm,hsm⟩:=aX (Sx.sameF ((nm,of_,up,5,lo,hi,ws,ns):Fld) ((nm,of_,⟨#[]⟩,5,lo,hi,[],[]):Fld))
 have CS:=aI (fun (W':World) (hb:Below w.heap.size w W')=>sameField_any ((nm,of_,up,5,lo,hi,ws,ns):Fld) ((nm,of_,⟨#[]⟩,5,lo,hi,[],[]):Fld) [.string nm,.string of_,.string up,.int .i64 5,.int .i64 lo,.int .i64 hi,.slice A ws.length c,.slice B ns.length d] [.string nm,.string of_,.string ⟨#[]⟩,.int .i64 5,.int .i64 lo,.int .i64 hi,.slice none 0 0,.slice none 0 0] W' (Mem.keep h (Chg.of_below hb)) (fld_rep a1 a2 empty_size a4 a5 a6 .nil .nil (ag _) (Nat.zero_le _) (ag _) (Nat.zero_le _)))
 rw [hsm] at CS
 have CN:=aI (fun w=>isName_any nm w a1)
 rw [hn] at CN
 have C1:=aI (fun w=>isName_any of_ w a2)
 obtain ⟨q1,hq1⟩:=aX (Sx.nm of_)
 rw [hq1] at C1
 have C2:=aI (span_any lo hi 0 32)
 obtain ⟨q2,hq2⟩:=aX (Sx.span lo hi 0 32)
 rw [hq2] at C2
 have HF:=aI (show Sx.fldB ((nm,of_,up,5,lo,hi,ws,ns):Fld)=(sm && (q1 && q2)) by
  have ho:Sx.only ((nm,of_,up,5,lo,hi,ws,ns):Fld)=((nm,of_,⟨#[]⟩,5,lo,hi,[],[]):Fld):=by rw [only_eq];rfl
  rw [Sx.fldB_is,ho,hsm]
  show (Sx.nm nm && (sm && Sx.swB ((nm,of_,up,5,lo,hi,ws,ns):Fld)))=_
  rw [hn,<-hq2,<-hq1]
  rw [show Sx.swB ((nm,of_,up,5,lo,hi,ws,ns):Fld)=(Sx.nm of_ && Sx.span lo hi 0 32) from rfl]
  rfl)
 have CO:=aI (fun w=>only_5 nm of_ up lo hi A B ws.length ns.length c d w)
 obtain ⟨W1,hW1,HB,hbk⟩:=aW w #[.string nm,.string of_,.string up,.int .i64 5,.int .i64 lo,.int .i64 hi,.slice A ws.length c,.slice B ns.length d] 52
 have HBK:=aI hbk
 obtain ⟨c0,c1,c2,c3,c4,c5,c6,c7⟩:=aN8 hbk.cell
 simp at c0 c1 c2 c3 c4 c5 c6 c7
 have HC:=aI (fun (W':World) (hb:Below W1.heap.size W1 W')=>(hb.block w.heap.size hbk.lt))
 have HW1:=aI hW1
 show Calls Tryz.prog 113 #[.agg #[.string nm,.string of_,.string up,.int .i64 5,.int .i64 lo,.int .i64 hi,.slice A ws.length c,.slice B ns.length d]] w _
 clear h s1 s2 a1 a2 a3 a4 a5 a6 b1 b2 e1 e2 hn hbk hW1 hsm hws zI hq1 hq2
 generalize Sx.fldB ((nm,of_,up,5,lo,hi,ws,ns):Fld)=fb at *
 generalize ws.length=wl at *
 generalize ns.length=nl at *
 obtain ⟨N,hN⟩:=aX w.heap.size
 go_enter Tryz.func113,Tryz.ntmps113
 go_wp2_with fail
 rw [HW1.out]
 (try rw [hN] at c0 c1 c2 c3 c4 c5 c6 c7)
 have cl0:=fun d os=>cell_regrown c0 d os;have cl1:=fun d os=>cell_regrown c1 d os;have cl2:=fun d os=>cell_regrown c2 d os;have cl3:=fun d os=>cell_regrown c3 d os;have cl4:=fun d os=>cell_regrown c4 d os;have cl5:=fun d os=>cell_regrown c5 d os;have cl6:=fun d os=>cell_regrown c6 d os;have cl7:=fun d os=>cell_regrown c7 d os
 refine wp_region_quiet_below (by kernel_rfl) (by kernel_rfl) ?_
 repeat (quiet_step (first | (go_at_call 110;exact Calls.regrown_of (CN.out _)) | (go_at_call 143;exact Calls.regrown_of (CO.out _)) | (go_at_call 62;exact Calls.regrown_of (CS.out _ (HB.out.trans ((below_regrown _ _ _).mono HB.out.size))))))
 refine wpQuiet_nil ?_
 intro _ hw'
 obtain ⟨⟨dq,osq⟩,rfl⟩:=hw'
 have hb4:=below_regrown W1 dq osq
 clear cl0 cl1 cl2 cl3 cl4 cl5 cl6 cl7
 generalize Sort.grow (redrawn W1 dq) osq=w4 at hb4 ⊢
 have HB1:=aI hb4
 have hbk:Blk w4 N 52 #[.string nm,.string of_,.string up,.int .i64 5,.int .i64 lo,.int .i64 hi,.slice A wl c,.slice B nl d]:=by rw [<-hN];exact HBK.out.below hb4 HBK.out.lt
 clear c0 c1 c2 c3 c4 c5 c6 c7 hb4
 have HBQ:=aI hbk
 obtain ⟨c0,c1,c2,c3,c4,c5,c6,c7⟩:=aN8 hbk.cell
 simp at c0 c1 c2 c3 c4 c5 c6 c7
 clear hbk
 cases sm
 ·go_wp2_with fail
  go_ret
  exact ⟨by rw [HF.out];rfl,HB.out.trans (HB1.out.mono HB.out.size)⟩
 ·cases q1 <;> (go_wp2_with (first | (go_at_call 110;(with_reducible refine (C1.out _).mono ?_);rintro e w2 ⟨rfl,hb2⟩;have HB1:=aI (HB1.out.trans (hb2.mono HB1.out.size));have hbk:=HBQ.out.below hb2 HBQ.out.lt;have HBQ:=aI hbk;obtain ⟨c0,c1,c2,c3,c4,c5,c6,c7⟩:=aN8 hbk.cell;simp at c0 c1 c2 c3 c4 c5 c6 c7;clear hbk hb2) | (go_at_call 111;(with_reducible refine aS (C2.out _) ?_)));go_ret;exact ⟨by rw [HF.out];first | rfl | (cases q2 <;> rfl),HB.out.trans (HB1.out.mono HB.out.size)⟩)
theorem isField_6 (nm of_ up:ByteArray) (lo hi:Int) (ws:List ByteArray) (ns:List Int) (us:List Value) (w:World) (h:Mem.rep [] w ((nm,of_,up,6,lo,hi,ws,ns):Fld) us) (hn:Sx.nm nm=true) (hws:ns.length<=1000000):Calls Tryz.prog 113 #[.agg us.toArray] w (BoolP (Sx.fldB ((nm,of_,up,6,lo,hi,ws,ns):Fld)) w):=by
 obtain ⟨A,c,B,d,rfl,s1,s2,a4,a5,a6,a1,a2,a3,b1,b2,e1,e2⟩:=rep_f8 h
 have zI:inI 0:=by constructor <;> decide
 obtain ⟨sm,hsm⟩:=aX (Sx.sameF ((nm,of_,up,6,lo,hi,ws,ns):Fld) ((nm,of_,⟨#[]⟩,6,0,0,[],[]):Fld))
 have CS:=aI (fun (W':World) (hb:Below w.heap.size w W')=>sameField_any ((nm,of_,up,6,lo,hi,ws,ns):Fld) ((nm,of_,⟨#[]⟩,6,0,0,[],[]):Fld) [.string nm,.string of_,.string up,.int .i64 6,.int .i64 lo,.int .i64 hi,.slice A ws.length c,.slice B ns.length d] [.string nm,.string of_,.string ⟨#[]⟩,.int .i64 6,.int .i64 0,.int .i64 0,.slice none 0 0,.slice none 0 0] W' (Mem.keep h (Chg.of_below hb)) (fld_rep a1 a2 empty_size a4 zI zI .nil .nil (ag _) (Nat.zero_le _) (ag _) (Nat.zero_le _)))
 rw [hsm] at CS
 have CN:=aI (fun w=>isName_any nm w a1)
 rw [hn] at CN
 have C1:=aI (fun w=>isName_any of_ w a2)
 obtain ⟨q1,hq1⟩:=aX (Sx.nm of_)
 rw [hq1] at C1
 have HF:=aI (show Sx.fldB ((nm,of_,up,6,lo,hi,ws,ns):Fld)=(sm && q1) by
  have ho:Sx.only ((nm,of_,up,6,lo,hi,ws,ns):Fld)=((nm,of_,⟨#[]⟩,6,0,0,[],[]):Fld):=by rw [only_eq];rfl
  rw [Sx.fldB_is,ho,hsm]
  show (Sx.nm nm && (sm && Sx.swB ((nm,of_,up,6,lo,hi,ws,ns):Fld)))=_
  rw [hn,<-hq1]
  rw [show Sx.swB ((nm,of_,up,6,lo,hi,ws,ns):Fld)=Sx.nm of_ from rfl]
  rfl)
 have CO:=aI (fun w=>only_6 nm of_ up lo hi A B ws.length ns.length c d w)
 obtain ⟨W1,hW1,HB,hbk⟩:=aW w #[.string nm,.string of_,.string up,.int .i64 6,.int .i64 lo,.int .i64 hi,.slice A ws.length c,.slice B ns.length d] 52
 have HBK:=aI hbk
 obtain ⟨c0,c1,c2,c3,c4,c5,c6,c7⟩:=aN8 hbk.cell
 simp at c0 c1 c2 c3 c4 c5 c6 c7
 have HC:=aI (fun (W':World) (hb:Below W1.heap.size W1 W')=>(hb.block w.heap.size hbk.lt))
 have HW1:=aI hW1
 show Calls Tryz.prog 113 #[.agg #[.string nm,.string of_,.string up,.int .i64 6,.int .i64 lo,.int .i64 hi,.slice A ws.length c,.slice B ns.length d]] w _
 clear h s1 s2 a1 a2 a3 a4 a5 a6 b1 b2 e1 e2 hn hbk hW1 hsm hws zI hq1
 generalize Sx.fldB ((nm,of_,up,6,lo,hi,ws,ns):Fld)=fb at *
 generalize ws.length=wl at *
 generalize ns.length=nl at *
 obtain ⟨N,hN⟩:=aX w.heap.size
 go_enter Tryz.func113,Tryz.ntmps113
 go_wp2_with fail
 rw [HW1.out]
 (try rw [hN] at c0 c1 c2 c3 c4 c5 c6 c7)
 have cl0:=fun d os=>cell_regrown c0 d os;have cl1:=fun d os=>cell_regrown c1 d os;have cl2:=fun d os=>cell_regrown c2 d os;have cl3:=fun d os=>cell_regrown c3 d os;have cl4:=fun d os=>cell_regrown c4 d os;have cl5:=fun d os=>cell_regrown c5 d os;have cl6:=fun d os=>cell_regrown c6 d os;have cl7:=fun d os=>cell_regrown c7 d os
 refine wp_region_quiet_below (by kernel_rfl) (by kernel_rfl) ?_
 repeat (quiet_step (first | (go_at_call 110;exact Calls.regrown_of (CN.out _)) | (go_at_call 143;exact Calls.regrown_of (CO.out _)) | (go_at_call 62;exact Calls.regrown_of (CS.out _ (HB.out.trans ((below_regrown _ _ _).mono HB.out.size))))))
 refine wpQuiet_nil ?_
 intro _ hw'
 obtain ⟨⟨dq,osq⟩,rfl⟩:=hw'
 have hb4:=below_regrown W1 dq osq
 clear cl0 cl1 cl2 cl3 cl4 cl5 cl6 cl7
 generalize Sort.grow (redrawn W1 dq) osq=w4 at hb4 ⊢
 have HB1:=aI hb4
 have hbk:Blk w4 N 52 #[.string nm,.string of_,.string up,.int .i64 6,.int .i64 lo,.int .i64 hi,.slice A wl c,.slice B nl d]:=by rw [<-hN];exact HBK.out.below hb4 HBK.out.lt
 clear c0 c1 c2 c3 c4 c5 c6 c7 hb4
 have HBQ:=aI hbk
 obtain ⟨c0,c1,c2,c3,c4,c5,c6,c7⟩:=aN8 hbk.cell
 simp at c0 c1 c2 c3 c4 c5 c6 c7
 clear hbk
 cases sm
 ·go_wp2_with fail
  go_ret
  exact ⟨by rw [HF.out];rfl,HB.out.trans (HB1.out.mono HB.out.size)⟩
 ·(go_wp2_with (first | (go_at_call 110;(with_reducible refine (C1.out _).mono ?_);rintro e w2 ⟨rfl,hb2⟩;have HB1:=aI (HB1.out.trans (hb2.mono HB1.out.size));have hbk:=HBQ.out.below hb2 HBQ.out.lt;have HBQ:=aI hbk;obtain ⟨c0,c1,c2,c3,c4,c5,c6,c7⟩:=aN8 hbk.cell;simp at c0 c1 c2 c3 c4 c5 c6 c7;clear hbk hb2));go_ret;exact ⟨by rw [HF.out];first | rfl | (cases q1 <;> rfl),HB.out.trans (HB1.out.mono HB.out.size)⟩)
theorem isField_7 (nm of_ up:ByteArray) (lo hi:Int) (ws:List ByteArray) (ns:List Int) (us:List Value) (w:World) (h:Mem.rep [] w ((nm,of_,up,7,lo,hi,ws,ns):Fld) us) (hn:Sx.nm nm=true) (hws:ns.length<=1000000):Calls Tryz.prog 113 #[.agg us.toArray] w (BoolP (Sx.fldB ((nm,of_,up,7,lo,hi,ws,ns):Fld)) w):=by
 obtain ⟨A,c,B,d,rfl,s1,s2,a4,a5,a6,a1,a2,a3,b1,b2,e1,e2⟩:=rep_f8 h
 have zI:inI 0:=by constructor <;> decide
 obtain ⟨sm,hsm⟩:=aX (Sx.sameF ((nm,of_,up,7,lo,hi,ws,ns):Fld) ((nm,of_,up,7,lo,hi,[],[]):Fld))
 have CS:=aI (fun (W':World) (hb:Below w.heap.size w W')=>sameField_any ((nm,of_,up,7,lo,hi,ws,ns):Fld) ((nm,of_,up,7,lo,hi,[],[]):Fld) [.string nm,.string of_,.string up,.int .i64 7,.int .i64 lo,.int .i64 hi,.slice A ws.length c,.slice B ns.length d] [.string nm,.string of_,.string up,.int .i64 7,.int .i64 lo,.int .i64 hi,.slice none 0 0,.slice none 0 0] W' (Mem.keep h (Chg.of_below hb)) (fld_rep a1 a2 a3 a4 a5 a6 .nil .nil (ag _) (Nat.zero_le _) (ag _) (Nat.zero_le _)))
 rw [hsm] at CS
 have CN:=aI (fun w=>isName_any nm w a1)
 rw [hn] at CN
 have C1:=aI (fun w=>isName_any of_ w a2)
 obtain ⟨q1,hq1⟩:=aX (Sx.nm of_)
 rw [hq1] at C1
 have C2:=aI (fun w=>isName_any up w a3)
 obtain ⟨q2,hq2⟩:=aX (Sx.nm up)
 rw [hq2] at C2
 have C3:=aI (span_any lo hi 0 1048576)
 obtain ⟨q3,hq3⟩:=aX (Sx.span lo hi 0 1048576)
 rw [hq3] at C3
 have HF:=aI (show Sx.fldB ((nm,of_,up,7,lo,hi,ws,ns):Fld)=(sm && (q1 && (q2 && q3))) by
  have ho:Sx.only ((nm,of_,up,7,lo,hi,ws,ns):Fld)=((nm,of_,up,7,lo,hi,[],[]):Fld):=by rw [only_eq];rfl
  rw [Sx.fldB_is,ho,hsm]
  show (Sx.nm nm && (sm && Sx.swB ((nm,of_,up,7,lo,hi,ws,ns):Fld)))=_
  rw [hn,<-hq3,<-hq2,<-hq1]
  rw [show Sx.swB ((nm,of_,up,7,lo,hi,ws,ns):Fld)=(Sx.nm of_ && (Sx.nm up && Sx.span lo hi 0 1048576)) from rfl]
  rfl)
 have CO:=aI (fun w=>only_7 nm of_ up lo hi A B ws.length ns.length c d w)
 obtain ⟨W1,hW1,HB,hbk⟩:=aW w #[.string nm,.string of_,.string up,.int .i64 7,.int .i64 lo,.int .i64 hi,.slice A ws.length c,.slice B ns.length d] 52
 have HBK:=aI hbk
 obtain ⟨c0,c1,c2,c3,c4,c5,c6,c7⟩:=aN8 hbk.cell
 simp at c0 c1 c2 c3 c4 c5 c6 c7
 have HC:=aI (fun (W':World) (hb:Below W1.heap.size W1 W')=>(hb.block w.heap.size hbk.lt))
 have HW1:=aI hW1
 show Calls Tryz.prog 113 #[.agg #[.string nm,.string of_,.string up,.int .i64 7,.int .i64 lo,.int .i64 hi,.slice A ws.length c,.slice B ns.length d]] w _
 clear h s1 s2 a1 a2 a3 a4 a5 a6 b1 b2 e1 e2 hn hbk hW1 hsm hws zI hq1 hq2 hq3
 generalize Sx.fldB ((nm,of_,up,7,lo,hi,ws,ns):Fld)=fb at *
 generalize ws.length=wl at *
 generalize ns.length=nl at *
 obtain ⟨N,hN⟩:=aX w.heap.size
 go_enter Tryz.func113,Tryz.ntmps113
 go_wp2_with fail
 rw [HW1.out]
 (try rw [hN] at c0 c1 c2 c3 c4 c5 c6 c7)
 have cl0:=fun d os=>cell_regrown c0 d os;have cl1:=fun d os=>cell_regrown c1 d os;have cl2:=fun d os=>cell_regrown c2 d os;have cl3:=fun d os=>cell_regrown c3 d os;have cl4:=fun d os=>cell_regrown c4 d os;have cl5:=fun d os=>cell_regrown c5 d os;have cl6:=fun d os=>cell_regrown c6 d os;have cl7:=fun d os=>cell_regrown c7 d os
 refine wp_region_quiet_below (by kernel_rfl) (by kernel_rfl) ?_
 repeat (quiet_step (first | (go_at_call 110;exact Calls.regrown_of (CN.out _)) | (go_at_call 143;exact Calls.regrown_of (CO.out _)) | (go_at_call 62;exact Calls.regrown_of (CS.out _ (HB.out.trans ((below_regrown _ _ _).mono HB.out.size))))))
 refine wpQuiet_nil ?_
 intro _ hw'
 obtain ⟨⟨dq,osq⟩,rfl⟩:=hw'
 have hb4:=below_regrown W1 dq osq
 clear cl0 cl1 cl2 cl3 cl4 cl5 cl6 cl7
 generalize Sort.grow (redrawn W1 dq) osq=w4 at hb4 ⊢
 have HB1:=aI hb4
 have hbk:Blk w4 N 52 #[.string nm,.string of_,.string up,.int .i64 7,.int .i64 lo,.int .i64 hi,.slice A wl c,.slice B nl d]:=by rw [<-hN];exact HBK.out.below hb4 HBK.out.lt
 clear c0 c1 c2 c3 c4 c5 c6 c7 hb4
 have HBQ:=aI hbk
 obtain ⟨c0,c1,c2,c3,c4,c5,c6,c7⟩:=aN8 hbk.cell
 simp at c0 c1 c2 c3 c4 c5 c6 c7
 clear hbk
 cases sm
 ·go_wp2_with fail
  go_ret
  exact ⟨by rw [HF.out];rfl,HB.out.trans (HB1.out.mono HB.out.size)⟩
 ·cases q1 <;> cases q2 <;> (go_wp2_with (first | (go_at_call 110;(with_reducible refine (C1.out _).mono ?_);rintro e w2 ⟨rfl,hb2⟩;have HB1:=aI (HB1.out.trans (hb2.mono HB1.out.size));have hbk:=HBQ.out.below hb2 HBQ.out.lt;have HBQ:=aI hbk;obtain ⟨c0,c1,c2,c3,c4,c5,c6,c7⟩:=aN8 hbk.cell;simp at c0 c1 c2 c3 c4 c5 c6 c7;clear hbk hb2) | (go_at_call 110;(with_reducible refine (C2.out _).mono ?_);rintro e w2 ⟨rfl,hb2⟩;have HB1:=aI (HB1.out.trans (hb2.mono HB1.out.size));have hbk:=HBQ.out.below hb2 HBQ.out.lt;have HBQ:=aI hbk;obtain ⟨c0,c1,c2,c3,c4,c5,c6,c7⟩:=aN8 hbk.cell;simp at c0 c1 c2 c3 c4 c5 c6 c7;clear hbk hb2) | (go_at_call 111;(with_reducible refine aS (C3.out _) ?_)));go_ret;exact ⟨by rw [HF.out];first | rfl | (cases q3 <;> rfl),HB.out.trans (HB1.out.mono HB.out.size)⟩)
theorem isField_8 (nm of_ up:ByteArray) (lo hi:Int) (ws:List ByteArray) (ns:List Int) (us:List Value) (w:World) (h:Mem.rep [] w ((nm,of_,up,8,lo,hi,ws,ns):Fld) us) (hn:Sx.nm nm=true) (hws:ns.length<=1000000):Calls Tryz.prog 113 #[.agg us.toArray] w (BoolP (Sx.fldB ((nm,of_,up,8,lo,hi,ws,ns):Fld)) w):=by
 obtain ⟨A,c,B,d,rfl,s1,s2,a4,a5,a6,a1,a2,a3,b1,b2,e1,e2⟩:=rep_f8 h
 have zI:inI 0:=by constructor <;> decide
 obtain ⟨sm,hsm⟩:=aX (Sx.sameF ((nm,of_,up,8,lo,hi,ws,ns):Fld) ((nm,of_,up,8,0,0,[],[]):Fld))
 have CS:=aI (fun (W':World) (hb:Below w.heap.size w W')=>sameField_any ((nm,of_,up,8,lo,hi,ws,ns):Fld) ((nm,of_,up,8,0,0,[],[]):Fld) [.string nm,.string of_,.string up,.int .i64 8,.int .i64 lo,.int .i64 hi,.slice A ws.length c,.slice B ns.length d] [.string nm,.string of_,.string up,.int .i64 8,.int .i64 0,.int .i64 0,.slice none 0 0,.slice none 0 0] W' (Mem.keep h (Chg.of_below hb)) (fld_rep a1 a2 a3 a4 zI zI .nil .nil (ag _) (Nat.zero_le _) (ag _) (Nat.zero_le _)))
 rw [hsm] at CS
 have CN:=aI (fun w=>isName_any nm w a1)
 rw [hn] at CN
 have C1:=aI (fun w=>isName_any of_ w a2)
 obtain ⟨q1,hq1⟩:=aX (Sx.nm of_)
 rw [hq1] at C1
 have C2:=aI (fun w=>isName_any up w a3)
 obtain ⟨q2,hq2⟩:=aX (Sx.nm up)
 rw [hq2] at C2
 have HF:=aI (show Sx.fldB ((nm,of_,up,8,lo,hi,ws,ns):Fld)=(sm && (q1 && q2)) by
  have ho:Sx.only ((nm,of_,up,8,lo,hi,ws,ns):Fld)=((nm,of_,up,8,0,0,[],[]):Fld):=by rw [only_eq];rfl
  rw [Sx.fldB_is,ho,hsm]
  show (Sx.nm nm && (sm && Sx.swB ((nm,of_,up,8,lo,hi,ws,ns):Fld)))=_
  rw [hn,<-hq2,<-hq1]
  rw [show Sx.swB ((nm,of_,up,8,lo,hi,ws,ns):Fld)=(Sx.nm of_ && Sx.nm up) from rfl]
  rfl)
 have CO:=aI (fun w=>only_8 nm of_ up lo hi A B ws.length ns.length c d w)
 obtain ⟨W1,hW1,HB,hbk⟩:=aW w #[.string nm,.string of_,.string up,.int .i64 8,.int .i64 lo,.int .i64 hi,.slice A ws.length c,.slice B ns.length d] 52
 have HBK:=aI hbk
 obtain ⟨c0,c1,c2,c3,c4,c5,c6,c7⟩:=aN8 hbk.cell
 simp at c0 c1 c2 c3 c4 c5 c6 c7
 have HC:=aI (fun (W':World) (hb:Below W1.heap.size W1 W')=>(hb.block w.heap.size hbk.lt))
 have HW1:=aI hW1
 show Calls Tryz.prog 113 #[.agg #[.string nm,.string of_,.string up,.int .i64 8,.int .i64 lo,.int .i64 hi,.slice A ws.length c,.slice B ns.length d]] w _
 clear h s1 s2 a1 a2 a3 a4 a5 a6 b1 b2 e1 e2 hn hbk hW1 hsm hws zI hq1 hq2
 generalize Sx.fldB ((nm,of_,up,8,lo,hi,ws,ns):Fld)=fb at *
 generalize ws.length=wl at *
 generalize ns.length=nl at *
 obtain ⟨N,hN⟩:=aX w.heap.size
 go_enter Tryz.func113,Tryz.ntmps113
 go_wp2_with fail
 rw [HW1.out]
 (try rw [hN] at c0 c1 c2 c3 c4 c5 c6 c7)
 have cl0:=fun d os=>cell_regrown c0 d os;have cl1:=fun d os=>cell_regrown c1 d os;have cl2:=fun d os=>cell_regrown c2 d os;have cl3:=fun d os=>cell_regrown c3 d os;have cl4:=fun d os=>cell_regrown c4 d os;have cl5:=fun d os=>cell_regrown c5 d os;have cl6:=fun d os=>cell_regrown c6 d os;have cl7:=fun d os=>cell_regrown c7 d os
 refine wp_region_quiet_below (by kernel_rfl) (by kernel_rfl) ?_
 repeat (quiet_step (first | (go_at_call 110;exact Calls.regrown_of (CN.out _)) | (go_at_call 143;exact Calls.regrown_of (CO.out _)) | (go_at_call 62;exact Calls.regrown_of (CS.out _ (HB.out.trans ((below_regrown _ _ _).mono HB.out.size))))))
 refine wpQuiet_nil ?_
 intro _ hw'
 obtain ⟨⟨dq,osq⟩,rfl⟩:=hw'
 have hb4:=below_regrown W1 dq osq
 clear cl0 cl1 cl2 cl3 cl4 cl5 cl6 cl7
 generalize Sort.grow (redrawn W1 dq) osq=w4 at hb4 ⊢
 have HB1:=aI hb4
 have hbk:Blk w4 N 52 #[.string nm,.string of_,.string up,.int .i64 8,.int .i64 lo,.int .i64 hi,.slice A wl c,.slice B nl d]:=by rw [<-hN];exact HBK.out.below hb4 HBK.out.lt
 clear c0 c1 c2 c3 c4 c5 c6 c7 hb4
 have HBQ:=aI hbk
 obtain ⟨c0,c1,c2,c3,c4,c5,c6,c7⟩:=aN8 hbk.cell
 simp at c0 c1 c2 c3 c4 c5 c6 c7
 clear hbk
 cases sm
 ·go_wp2_with fail
  go_ret
  exact ⟨by rw [HF.out];rfl,HB.out.trans (HB1.out.mono HB.out.size)⟩
 ·cases q1 <;> (go_wp2_with (first | (go_at_call 110;(with_reducible refine (C1.out _).mono ?_);rintro e w2 ⟨rfl,hb2⟩;have HB1:=aI (HB1.out.trans (hb2.mono HB1.out.size));have hbk:=HBQ.out.below hb2 HBQ.out.lt;have HBQ:=aI hbk;obtain ⟨c0,c1,c2,c3,c4,c5,c6,c7⟩:=aN8 hbk.cell;simp at c0 c1 c2 c3 c4 c5 c6 c7;clear hbk hb2) | (go_at_call 110;(with_reducible refine (C2.out _).mono ?_);rintro e w2 ⟨rfl,hb2⟩;have HB1:=aI (HB1.out.trans (hb2.mono HB1.out.size));have hbk:=HBQ.out.below hb2 HBQ.out.lt;have HBQ:=aI hbk;obtain ⟨c0,c1,c2,c3,c4,c5,c6,c7⟩:=aN8 hbk.cell;simp at c0 c1 c2 c3 c4 c5 c6 c7;clear hbk hb2));go_ret;exact ⟨by rw [HF.out];first | rfl | (cases q2 <;> rfl),HB.out.trans (HB1.out.mono HB.out.size)⟩)
theorem isField_9 (nm of_ up:ByteArray) (lo hi:Int) (ws:List ByteArray) (ns:List Int) (kd:Int) (hk:∀ j:Nat,j < 9->kd≠(j:Int)) (us:List Value) (w:World) (h:Mem.rep [] w ((nm,of_,up,kd,lo,hi,ws,ns):Fld) us) (hn:Sx.nm nm=true) (hws:ns.length<=1000000):Calls Tryz.prog 113 #[.agg us.toArray] w (BoolP (Sx.fldB ((nm,of_,up,kd,lo,hi,ws,ns):Fld)) w):=by
 obtain ⟨A,c,B,d,rfl,s1,s2,a4,a5,a6,a1,a2,a3,b1,b2,e1,e2⟩:=rep_f8 h
 have zI:inI 0:=by constructor <;> decide
 have k0:(kd == 0)=false:=beq_eq_false_iff_ne.2 (hk 0 (by omega))
 have k1:(kd == 1)=false:=beq_eq_false_iff_ne.2 (hk 1 (by omega))
 have k2:(kd == 2)=false:=beq_eq_false_iff_ne.2 (hk 2 (by omega))
 have k3:(kd == 3)=false:=beq_eq_false_iff_ne.2 (hk 3 (by omega))
 have k4:(kd == 4)=false:=beq_eq_false_iff_ne.2 (hk 4 (by omega))
 have k5:(kd == 5)=false:=beq_eq_false_iff_ne.2 (hk 5 (by omega))
 have k6:(kd == 6)=false:=beq_eq_false_iff_ne.2 (hk 6 (by omega))
 have k7:(kd == 7)=false:=beq_eq_false_iff_ne.2 (hk 7 (by omega))
 have k8:(kd == 8)=false:=beq_eq_false_iff_ne.2 (hk 8 (by omega))
 have n0:¬ kd=0:=hk 0 (by omega)
 have n1:¬ kd=1:=hk 1 (by omega)
 have n2:¬ kd=2:=hk 2 (by omega)
 have n3:¬ kd=3:=hk 3 (by omega)
 have n4:¬ kd=4:=hk 4 (by omega)
 have n5:¬ kd=5:=hk 5 (by omega)
 have n6:¬ kd=6:=hk 6 (by omega)
 have n7:¬ kd=7:=hk 7 (by omega)
 have n8:¬ kd=8:=hk 8 (by omega)
 obtain ⟨sm,hsm⟩:=aX (Sx.sameF ((nm,of_,up,kd,lo,hi,ws,ns):Fld) ((nm,⟨#[]⟩,⟨#[]⟩,kd,0,0,[],[]):Fld))
 have CS:=aI (fun (W':World) (hb:Below w.heap.size w W')=>sameField_any ((nm,of_,up,kd,lo,hi,ws,ns):Fld) ((nm,⟨#[]⟩,⟨#[]⟩,kd,0,0,[],[]):Fld) [.string nm,.string of_,.string up,.int .i64 kd,.int .i64 lo,.int .i64 hi,.slice A ws.length c,.slice B ns.length d] [.string nm,.string ⟨#[]⟩,.string ⟨#[]⟩,.int .i64 kd,.int .i64 0,.int .i64 0,.slice none 0 0,.slice none 0 0] W' (Mem.keep h (Chg.of_below hb)) (fld_rep a1 empty_size empty_size a4 zI zI .nil .nil (ag _) (Nat.zero_le _) (ag _) (Nat.zero_le _)))
 rw [hsm] at CS
 have CN:=aI (fun w=>isName_any nm w a1)
 rw [hn] at CN
 have HF:=aI (show Sx.fldB ((nm,of_,up,kd,lo,hi,ws,ns):Fld)=(sm && false) by
  have ho:Sx.only ((nm,of_,up,kd,lo,hi,ws,ns):Fld)=((nm,⟨#[]⟩,⟨#[]⟩,kd,0,0,[],[]):Fld):=by rw [only_eq];simp [n0,n1,n2,n3,n4,n5,n6,n7,n8]
  rw [Sx.fldB_is,ho,hsm]
  show (Sx.nm nm && (sm && Sx.swB ((nm,of_,up,kd,lo,hi,ws,ns):Fld)))=_
  rw [hn]
  rw [show Sx.swB ((nm,of_,up,kd,lo,hi,ws,ns):Fld)=false from by simp [Sx.swB,Sc.kd,n0,n1,n2,n3,n4,n5,n6,n7,n8]]
  rfl)
 have CO:=aI (fun w=>only_9 nm of_ up lo hi A B ws.length ns.length c d kd hk w)
 obtain ⟨W1,hW1,HB,hbk⟩:=aW w #[.string nm,.string of_,.string up,.int .i64 kd,.int .i64 lo,.int .i64 hi,.slice A ws.length c,.slice B ns.length d] 52
 have HBK:=aI hbk
 obtain ⟨c0,c1,c2,c3,c4,c5,c6,c7⟩:=aN8 hbk.cell
 simp at c0 c1 c2 c3 c4 c5 c6 c7
 have HC:=aI (fun (W':World) (hb:Below W1.heap.size W1 W')=>(hb.block w.heap.size hbk.lt))
 have HW1:=aI hW1
 show Calls Tryz.prog 113 #[.agg #[.string nm,.string of_,.string up,.int .i64 kd,.int .i64 lo,.int .i64 hi,.slice A ws.length c,.slice B ns.length d]] w _
 clear h s1 s2 a1 a2 a3 a4 a5 a6 b1 b2 e1 e2 hn hbk hW1 hsm hws zI hk n0 n1 n2 n3 n4 n5 n6 n7 n8
 generalize Sx.fldB ((nm,of_,up,kd,lo,hi,ws,ns):Fld)=fb at *
 generalize ws.length=wl at *
 generalize ns.length=nl at *
 obtain ⟨N,hN⟩:=aX w.heap.size
 go_enter Tryz.func113,Tryz.ntmps113
 go_wp2_with fail
 rw [HW1.out]
 (try rw [hN] at c0 c1 c2 c3 c4 c5 c6 c7)
 have cl0:=fun d os=>cell_regrown c0 d os;have cl1:=fun d os=>cell_regrown c1 d os;have cl2:=fun d os=>cell_regrown c2 d os;have cl3:=fun d os=>cell_regrown c3 d os;have cl4:=fun d os=>cell_regrown c4 d os;have cl5:=fun d os=>cell_regrown c5 d os;have cl6:=fun d os=>cell_regrown c6 d os;have cl7:=fun d os=>cell_regrown c7 d os
 refine wp_region_quiet_below (by kernel_rfl) (by kernel_rfl) ?_
 repeat (quiet_step (first | (go_at_call 110;exact Calls.regrown_of (CN.out _)) | (go_at_call 143;exact Calls.regrown_of (CO.out _)) | (go_at_call 62;exact Calls.regrown_of (CS.out _ (HB.out.trans ((below_regrown _ _ _).mono HB.out.size))))))
 refine wpQuiet_nil ?_
 intro _ hw'
 obtain ⟨⟨dq,osq⟩,rfl⟩:=hw'
 have hb4:=below_regrown W1 dq osq
 clear cl0 cl1 cl2 cl3 cl4 cl5 cl6 cl7
 generalize Sort.grow (redrawn W1 dq) osq=w4 at hb4 ⊢
 have HB1:=aI hb4
 have hbk:Blk w4 N 52 #[.string nm,.string of_,.string up,.int .i64 kd,.int .i64 lo,.int .i64 hi,.slice A wl c,.slice B nl d]:=by rw [<-hN];exact HBK.out.below hb4 HBK.out.lt
 clear c0 c1 c2 c3 c4 c5 c6 c7 hb4
 have HBQ:=aI hbk
 obtain ⟨c0,c1,c2,c3,c4,c5,c6,c7⟩:=aN8 hbk.cell
 simp at c0 c1 c2 c3 c4 c5 c6 c7
 clear hbk
 cases sm
 ·go_wp2_with fail
  go_ret
  exact ⟨by rw [HF.out];rfl,HB.out.trans (HB1.out.mono HB.out.size)⟩
 ·(go_wp2_with (fail);go_ret;exact ⟨by rw [HF.out];first | rfl | (cases sm <;> rfl),HB.out.trans (HB1.out.mono HB.out.size)⟩)
theorem isField_any (f:Fld) (us:List Value) (w:World) (h:Mem.rep [] w f us) (hws:(Sc.wts f).length<=1000000):Calls Tryz.prog 113 #[.agg us.toArray] w (BoolP (Sx.fldB f) w):=by
 cases hn:Sx.nm (Sc.nm f) with
 | false=>exact isField_no f us w h hn
 | true =>
  obtain ⟨nm,of_,up,kd,lo,hi,ws,ns⟩:=f
  by_cases k0:kd=0
  ·subst k0;exact isField_0 nm of_ up lo hi ws ns us w h hn hws
  by_cases k1:kd=1
  ·subst k1;exact isField_1 nm of_ up lo hi ws ns us w h hn hws
  by_cases k2:kd=2
  ·subst k2;exact isField_2 nm of_ up lo hi ws ns us w h hn hws
  by_cases k3:kd=3
  ·subst k3;exact isField_3 nm of_ up lo hi ws ns us w h hn hws
  by_cases k4:kd=4
  ·subst k4;exact isField_4 nm of_ up lo hi ws ns us w h hn hws
  by_cases k5:kd=5
  ·subst k5;exact isField_5 nm of_ up lo hi ws ns us w h hn hws
  by_cases k6:kd=6
  ·subst k6;exact isField_6 nm of_ up lo hi ws ns us w h hn hws
  by_cases k7:kd=7
  ·subst k7;exact isField_7 nm of_ up lo hi ws ns us w h hn hws
  by_cases k8:kd=8
  ·subst k8;exact isField_8 nm of_ up lo hi ws ns us w h hn hws
  exact isField_9 nm of_ up lo hi ws ns kd (fun j hj=>by omega) us w h hn hws
end
section
namespace Sx
theorem nm_sz {s:ByteArray} (h:nm s=true):1<=s.size/\s.size<=12:=by
 unfold nm nameB at h
 simp only [Bool.and_eq_true,decide_eq_true_eq] at h
 rw [show s.data.toList.length=s.size from strLen s] at h
 omega
theorem em_sz {s:ByteArray} (h:em s=true):s.size=0:=by unfold em at h;simpa using h
structure FB (f:Fld):Prop where
 nm:(Sc.nm f).size<=12
 of_:(Sc.of_ f).size<=12
 up:(Sc.up f).size<=12
 lo:-1048576<=Sc.lo f/\Sc.lo f<=1048576
 hi:-1048576<=Sc.hi f/\Sc.hi f<=1048576
 ws:(Sc.words f).length<=12
 ns:(Sc.wts f).length=(Sc.words f).length
 w:∀ s∈Sc.words f,s.size<=12
 n:∀ n∈Sc.wts f,0<=n/\n<=1048576
 kd:∃ k:Nat,k<=8/\Sc.kd f=k
theorem within_of {n a b:Int} (h:within n a b=true):a<=n/\n<=b:=by unfold within at h;simpa using h
theorem span_of {n m a b:Int} (h:span n m a b=true):a<=n/\n<=m/\m<=b:=by unfold span at h;simpa using h
theorem noW_of {f:Fld} (h:noW f=true):Sc.words f=[]/\Sc.wts f=[]:=by unfold noW at h;simpa using h
theorem fldB_bd {f:Fld} (h:fldB f=true):FB f:=by
 unfold fldB at h
 rw [Bool.and_eq_true_iff] at h
 obtain ⟨h1,h⟩:=h
 have hn:=nm_sz h1
 have mk:noW f=true->(Sc.of_ f).size<=12->(Sc.up f).size<=12->(-1048576<=Sc.lo f/\Sc.lo f<=1048576)->(-1048576<=Sc.hi f/\Sc.hi f<=1048576)->(∃ k:Nat,k<=8/\Sc.kd f=k)->FB f:=fun a b c d e g=>by
  obtain ⟨e1,e2⟩:=noW_of a
  exact ⟨hn.2,b,c,d,e,by rw [e1];simp,by rw [e1,e2];rfl,(by rw [e1];intro _ h;cases h),(by rw [e2];intro _ h;cases h),g⟩
 unfold most at h
 split at h
 ·rename_i hk
  simp only [Bool.and_eq_true,decide_eq_true_eq] at h
  have a1:=em_sz h.1;have a2:=em_sz h.2.1;have a3:=within_of h.2.2.2.2
  exact mk h.2.2.2.1 (by omega) (by omega) (by omega) (by omega) ⟨0,by omega,hk⟩
 split at h
 ·rename_i hk
  simp only [Bool.and_eq_true,decide_eq_true_eq] at h
  have a1:=em_sz h.1;have a2:=nm_sz h.2.2.1;have a3:=span_of h.2.2.2
  exact mk h.2.1 (by omega) (by omega) (by omega) (by omega) ⟨1,by omega,hk⟩
 split at h
 ·rename_i hk
  simp only [Bool.and_eq_true,decide_eq_true_eq] at h
  have a1:=em_sz h.1;have a2:=em_sz h.2.1;have a3:=span_of h.2.2.2
  exact mk h.2.2.1 (by omega) (by omega) (by omega) (by omega) ⟨2,by omega,hk⟩
 split at h
 ·rename_i hk
  unfold pickB most at h
  simp only [Bool.and_eq_true,decide_eq_true_eq,List.all_eq_true] at h
  obtain ⟨b1,b2,b3,b4,b5,b6,b7,b8,b9⟩:=h
  have a1:=em_sz b1;have a2:=em_sz b2;have a3:=within_of b6
  exact ⟨hn.2,by omega,by omega,by omega,by omega,by omega,by omega,fun s hs=>(nm_sz (b9 s hs)).2,fun n hn=>within_of (b5 n hn),⟨3,by omega,hk⟩⟩
 split at h
 ·rename_i hk
  simp only [Bool.and_eq_true,Bool.or_eq_true,decide_eq_true_eq] at h
  have a1:=em_sz h.1;have a3:=span_of h.2.2.2
  have a2:(Sc.of_ f).size<=12:=by
   rcases h.2.2.1 with h | h
   ·have:=em_sz h;omega
   ·have:=nm_sz h;omega
  exact mk h.2.1 (by omega) (by omega) (by omega) (by omega) ⟨4,by omega,hk⟩
 split at h
 ·rename_i hk
  simp only [Bool.and_eq_true,decide_eq_true_eq] at h
  have a1:=em_sz h.1;have a2:=nm_sz h.2.2.1;have a3:=span_of h.2.2.2
  exact mk h.2.1 (by omega) (by omega) (by omega) (by omega) ⟨5,by omega,hk⟩
 split at h
 ·rename_i hk
  simp only [Bool.and_eq_true,decide_eq_true_eq] at h
  have a1:=em_sz h.1;have a2:=nm_sz h.2.2.2.2
  exact mk h.2.1 (by omega) (by omega) (by omega) (by omega) ⟨6,by omega,hk⟩
 split at h
 ·rename_i hk
  simp only [Bool.and_eq_true,decide_eq_true_eq] at h
  have a1:=nm_sz h.2.1;have a2:=nm_sz h.2.2.1;have a3:=span_of h.2.2.2
  exact mk h.1 (by omega) (by omega) (by omega) (by omega) ⟨7,by omega,hk⟩
 split at h
 ·rename_i hk
  simp only [Bool.and_eq_true,decide_eq_true_eq] at h
  have a1:=nm_sz h.2.2.2.1;have a2:=nm_sz h.2.2.2.2
  exact mk h.1 (by omega) (by omega) (by omega) (by omega) ⟨8,by omega,hk⟩
 ·cases h
def orN (s:ByteArray):ByteArray:=if em s=true then ⟨#[45]⟩ else s
theorem orN_list (s:ByteArray):bs (orN s)=orNone s:=by unfold orN orNone;split <;> rfl
theorem orN_sz {s:ByteArray} {n:Nat} (h:s.size<=n) (hn:1<=n):(orN s).size<=n:=by
 unfold orN
 split
 ·exact hn
 ·exact h
end Sx
def avCell:Sx.Av->Value
 | .n z=>.iface 3 (.int .i64 z)
 | .s b=>.iface 9 (.string b)
def avCells (l:List Sx.Av):List Value:=l.map avCell
def Sx.Av.fit:Sx.Av->Prop
 | .n z=>-1000000000<=z/\z<=1000000000
 | .s b=>b.size<=100
theorem Sx.Av.fit.ok {a:Sx.Av} (h:a.fit):a.ok:=by
 cases a with
 | n z=>unfold Sx.Av.fit at h;show z.natAbs < 10000000000;omega
 | s b=>exact h
theorem av_rep {G:List Nat} {w:World} {a:Sx.Av} (h:a.fit):Mem.rep G w a [avCell a]:=by
 cases a with
 | n z=>unfold Sx.Av.fit at h;exact ⟨rfl,by unfold inI;omega⟩
 | s b=>exact ⟨rfl,ah h (by decide)⟩
theorem flat_avs {G:List Nat} {w:World}:∀ {l:List Sx.Av},(∀ a∈l,a.fit)->Flat G w l (avCells l)
 | [],_=>rfl
 | a::l,h=>⟨[avCell a],avCells l,rfl,av_rep (h a (.head _)),flat_avs fun x hx=>h x (.tail _ hx)⟩
theorem line_new (ws:ByteArray) (l:List Sx.Av) (W:World) (hok:∀ a∈l,a.fit) (hm:l.length<=1000000) (hws:ws.size<=1000) (he:TEnv W) :
  Calls Tryz.prog 104 #[.string ws,.slice (some ⟨W.heap.size,0,none⟩) l.length l.length] (W.alloc (.cells (avCells l).toArray 20)) fun e w'=>e=.returned (.string ⟨(Sx.lineT (Sx.bs ws::l.map Sx.Av.t)).toArray⟩)/\Below W.heap.size W w':=by
 have hb:Below W.heap.size W (W.alloc (.cells (avCells l).toArray 20)):=(Below.refl _ _).alloc (ag _) _
 refine (line_any ws l (some ⟨W.heap.size,0,none⟩) l.length _ (SlAt.of_blk (flat_avs hok) (Blk.new _ _ _) (by simp)) (fun a ha=>(hok a ha).ok) hm hws (he.below hb he.sz)).mono ?_
 rintro e w' ⟨rfl,h⟩
 exact ⟨rfl,hb.trans (h.mono hb.size)⟩
theorem or_any (s:ByteArray) (b:Nat) (w:World) (c0:w.cell? ⟨b,0,none⟩=some (.string s)) (c1:w.cell? ⟨b,1,none⟩=some (.string ⟨#[45]⟩)):Calls Tryz.prog 135 #[.slice (some ⟨b,0,none⟩) 2 2] w fun e w'=>e=.returned (.string (Sx.orN s))/\w=w':=by
 unfold Sx.orN
 obtain ⟨e1,e2,e3⟩:=em_spell s
 obtain ⟨r,hr⟩:=aX (Sx.em s)
 rw [hr] at e1 e2 e3 ⊢
 clear hr
 cases r
 ·rw [if_neg (by simp)]
  have e4:(s.toList != [])=true:=by rw [bne,e3];rfl
  go_enter Tryz.func135,Tryz.ntmps135
  go_wp2_with fail
  go_loopg [8] 2 (fun r i wr=>i=.int .i64 0/\r=2/\wr=w)
  case atStart=>exact ⟨rfl,rfl,rfl⟩
  case round =>
   obtain ⟨rfl,_,rfl⟩:=hrel
   go_wp2_with fail
   go_ret
   exact ⟨rfl,rfl⟩
 ·rw [if_pos rfl]
  have e4:(s.toList != [])=false:=by rw [bne,e3];rfl
  go_enter Tryz.func135,Tryz.ntmps135
  go_wp2_with fail
  go_loopg [8] 2 (fun r i wr=>∃ k:Nat,k<=1/\k+r=2/\i=.int .i64 k/\wr=w)
  case atStart=>exact ⟨0,by omega,by omega,rfl,rfl⟩
  case round =>
   obtain ⟨k,hk,hk2,rfl,rfl⟩:=hrel
   obtain ⟨w,rfl⟩:=aY wr
   rcases (show k=0∨k=1 by omega) with rfl | rfl
   ·go_wp2_with fail
    go_roundg (gk - 1)
    case measure=>omega
    case rel=>exact ⟨1,by omega,by omega,by go_num,rfl⟩
   ·go_wp2_with fail
    go_ret
    exact ⟨rfl,rfl⟩
theorem named_any (s:ByteArray) (w:World):Calls Tryz.prog 106 #[.string s] w fun e w'=>e=.returned (.string (Sx.orN s))/\Below w.heap.size w w':=by
 have CO:=aI (or_any s)
 go_enter Tryz.func106,Tryz.ntmps106
 go_wp2_with (go_at_call 135;(with_reducible refine aS (CO.out _ _ ((Blk.new _ _ _).cell 0) ((Blk.new _ _ _).cell 1)) ?_))
 go_ret
 exact ⟨rfl,(Below.refl _ _).alloc (ag _) _⟩
theorem gSyn : Tryz.prog.globalNamed "strconv.ErrSyntax" = some 1 := by kernel_rfl
theorem gRng : Tryz.prog.globalNamed "strconv.ErrRange" = some 2 := by kernel_rfl
def wdS (k:Nat):ByteArray:=Sx.ofT (Sx.wordsL.getD k [])
structure SEnv (w:World):Prop where
 t:TEnv w
 syn : ∃ (tp : TypeId) (p : Value), w.var? Tryz.prog "strconv.ErrSyntax" = some #[.iface tp p]
 rng : ∃ (tp : TypeId) (p : Value), w.var? Tryz.prog "strconv.ErrRange" = some #[.iface tp p]
 words:∀ k,k < 9->w.cell? ⟨0,k,none⟩=some (.string (wdS k))
 sz:1+2+5+0 < w.heap.size
theorem SEnv.below {w w':World} {B:Nat} (h:SEnv w) (hb:Below B w w') (hB:1+2+5+0 < B):SEnv w':=by
 obtain ⟨h1,⟨a,b,h2⟩,⟨c,d,h3⟩,h4,h5⟩:=h
 exact ⟨h1.below hb (by omega),⟨a,b,var?_below hb gSyn (by omega) h2⟩,⟨c,d,var?_below hb gRng (by omega) h3⟩,fun k hk=>(hb.cell (p:=⟨0,k,none⟩) (show 0 < B by omega)).trans (h4 k hk),by have:=hb.size;omega⟩
def AtoiP (l:List UInt8) (w:World) (e:Ending) (w':World):Prop:=∃ (n:Int) (ev:Value),e=.returned (.tuple #[.int .i64 n,ev])/\inI n/\(∀ m,Lib.atoiAll l=.ok m->n=m)/\((∀ m,Lib.atoiAll l≠.ok m)->l=[]->n=0)/\Below w.heap.size w w'
theorem atoi_any (s:ByteArray) (w:World) (hs:s.size<=1000000) (ht:SEnv w):Calls Tryz.prog 76 #[.string s] w (AtoiP s.data.toList w):=by
 obtain ⟨_,⟨a,b,h2⟩,⟨c,d,h3⟩,_,_⟩:=ht
 cases hh:Lib.atoiAll s.data.toList with
 | ok v =>
  refine (Tryz.strconv_Atoi_ok s (by omega) v hh w).mono ?_
  rintro e w' ⟨rfl,hw⟩
  exact ⟨v,.nilIface,rfl,Lib.atoiAll_bounds hh,fun m hm=>by rw [hh] at hm;injection hm,fun h=>absurd hh (h v),below_atoi hw⟩
 | «syntax» =>
  refine (Tryz.strconv_Atoi_syntax_var s (by omega) hh a b w h2).mono ?_
  rintro e w' ⟨N,rfl,_,_,hb⟩
  exact ⟨_,_,rfl,⟨by decide,by decide⟩,fun m hm=>(by rw [hh] at hm;cases hm),fun _ _=>rfl,hb⟩
 | range =>
  refine (Tryz.strconv_Atoi_range_var s (by omega) hh c d w h3).mono ?_
  rintro e w' ⟨N,rfl,_,_,hb⟩
  refine ⟨_,_,rfl,⟨?_,?_⟩,fun m hm=>(by rw [hh] at hm;cases hm),fun _ hl=>?_,hb⟩
  ·unfold Lib.atoiSat;split <;> decide
  ·unfold Lib.atoiSat;split <;> decide
  ·rw [hl] at hh;cases hh
namespace Sx
theorem vdigs (w:Txt):Vm.digs w=digs w:=rfl
theorem atoi_numB {w:Txt} (h:numB w=true):Lib.atoiAll w=.ok (numV w):=by
 unfold numB at h
 simp only [Bool.and_eq_true,decide_eq_true_eq] at h
 obtain ⟨h1,h7,hall⟩:=h
 have hpm:Lib.parseMag (digs w)=.ok (Dc.decV (digs w)):=by
  unfold Lib.parseMag
  rw [if_neg (by intro e;rw [e] at h1;simp at h1)]
  refine parse_digs _ 0 hall ?_
  rw [Nat.zero_add,Nat.one_mul]
  exact ah (Nat.pow_le_pow_right (by omega) h7) (by decide)
 have hlt:=Dc.decV_lt _ hall
 have hl7:10 ^ (digs w).length<=10 ^ 9:=Nat.pow_le_pow_right (by omega) h7
 have h107:(10:Nat) ^ 9=1000000000:=by decide
 cases w with
 | nil=>simp [digs,neg] at h1
 | cons c r =>
  unfold numV
  cases hn:neg (c::r)
  ·have hd:digs (c::r)=c::r:=by unfold digs;rw [hn];rfl
   rw [hd] at hall hpm hlt hl7 ⊢
   rw [List.all_cons,Bool.and_eq_true] at hall
   have hc:=hall.1
   simp only [Dc.isDig,Bool.and_eq_true,decide_eq_true_eq] at hc
   unfold Lib.atoiAll
   simp only [if_neg (show ¬ (c.toNat=43∨c.toNat=45) by omega),hpm,if_neg (show ¬ (c.toNat=45/\9223372036854775808 < Dc.decV (c::r)) by omega),if_neg (show ¬ (¬ c.toNat=45/\9223372036854775808<=Dc.decV (c::r)) by omega),if_neg (show ¬ c.toNat=45 by omega)]
   simp
  ·have hd:digs (c::r)=r:=by unfold digs;rw [hn];rfl
   rw [hd] at hall hpm hlt hl7 ⊢
   have hc:c.toNat=45:=by unfold neg at hn;simp at hn;rw [hn];rfl
   unfold Lib.atoiAll
   simp only [if_pos (show (c.toNat=43∨c.toNat=45) by omega),hpm,if_neg (show ¬ (c.toNat=45/\9223372036854775808 < Dc.decV r) by omega),if_neg (show ¬ (¬ c.toNat=45/\9223372036854775808<=Dc.decV r) by omega),if_pos hc]
   simp
def tenD:Txt:=[48,49,50,51,52,53,54,55,56,57]
theorem ten_dig (c:UInt8):tenD.contains c=Dc.isDig c:=by
 have h:∀ n:Fin 256,tenD.contains (UInt8.ofNat n.val)=Dc.isDig (UInt8.ofNat n.val):=by decide
 have:=h ⟨c.toNat,c.toNat_lt⟩
 simpa using this
theorem dropWhile_nil {p:UInt8->Bool}:∀ {l:Txt},(l.dropWhile p=[]↔l.all p=true)
 | []=>by simp
 | c::l=>by
  rw [List.dropWhile_cons,List.all_cons]
  cases hp:p c
  ·simp
  ·rw [if_pos rfl,dropWhile_nil];simp
theorem trim_ten (l:Txt):decide (Lib.trimS l tenD=[])=l.all Dc.isDig:=by
 have hf:(fun c=>tenD.contains c)=Dc.isDig:=funext ten_dig
 unfold Lib.trimS Lib.trimLeftS Lib.trimRightS
 rw [hf]
 rw [Bool.eq_iff_iff,decide_eq_true_eq,dropWhile_nil]
 constructor
 ·intro h
  rw [List.all_eq_true] at h ⊢
  -- an element that is no digit stays
  by_cases ha:l.all Dc.isDig=true
  ·exact List.all_eq_true.1 ha
  ·exfalso
   have hr:l.reverse.dropWhile Dc.isDig≠[]:=fun e=>ha (by rw [dropWhile_nil,List.all_reverse] at e;exact e)
   obtain ⟨c,m,hm⟩:=List.exists_cons_of_ne_nil hr
   have hc:=List.head_dropWhile_not Dc.isDig hr
   simp only [hm,List.head_cons] at hc
   have:=h c (by rw [hm];simp)
   rw [this] at hc;cases hc
 ·intro h
  rw [List.all_eq_true] at h ⊢
  have e:l.reverse.dropWhile Dc.isDig=[]:=by rw [dropWhile_nil,List.all_reverse];exact List.all_eq_true.2 h
  rw [e];simp
theorem numB_is (w:Txt):numB w=((decide (1<=(digs w).length) && decide ((digs w).length<=9)) && (digs w).all Dc.isDig):=by unfold numB;rw [Bool.and_assoc]
end Sx
theorem info256:(Tryz.prog.info? (Tryz.lays160_ren.t 116)).map (fun i=>(i.zero,i.size))=some (some (.agg (Array.replicate 256 (.bool false))),256):=by kernel_rfl
theorem trim_any (s:ByteArray) (w:World) (hs:s.size<=9223372036854775807):Calls Tryz.prog 125 #[.string s,.string ⟨#[48,49,50,51,52,53,54,55,56,57]⟩] w fun e w'=>e=.returned (.string ⟨(Lib.trimS s.data.toList Sx.tenD).toArray⟩)/\Below w.heap.size w w' :=
 Any.strings_Trim_laid Tryz.lays160 info256 s ⟨#[48,49,50,51,52,53,54,55,56,57]⟩ w hs (by decide) (ascii_of_all (by decide))
theorem isNumber_any (s:ByteArray) (w:World) (hs:s.size<=1000000):Calls Tryz.prog 77 #[.string s] w (BoolP (Sx.numB s.data.toList) w):=by
 have CT:=aI (fun w=>Tryz.strings_TrimPrefix s ⟨#[45]⟩ w)
 simp only [trim_is,Sx.vdigs] at CT
 obtain ⟨d,hd⟩:∃ d:ByteArray,(⟨(Sx.digs s.data.toList).toArray⟩:ByteArray)=d:=⟨_,rfl⟩
 rw [hd] at CT
 have hdl:d.data.toList=Sx.digs s.data.toList:=by rw [<-hd]
 have hok:Sx.numB s.data.toList=((decide (1<=d.size) && decide (d.size<=9)) && d.data.toList.all Dc.isDig):=by rw [Sx.numB_is,<-hdl,Vm.strLn]
 have hdm:d.size<=1000000:=by
  have:(Sx.digs s.data.toList).length<=s.data.toList.length:=by unfold Sx.digs;split <;> simp
  rw [<-hdl,Vm.strLn,Vm.strLn] at this;omega
 have CR:=aI (fun w=>trim_any d w (by omega))
 obtain ⟨tt,htt⟩:∃ t:ByteArray,(⟨(Lib.trimS d.data.toList Sx.tenD).toArray⟩:ByteArray)=t:=⟨_,rfl⟩
 rw [htt] at CR
 have ht:(tt.toList == (⟨#[]⟩:ByteArray).toList)=d.data.toList.all Dc.isDig:=by
  rw [strEqB,<-Sx.trim_ten,<-htt]
  by_cases h:Lib.trimS d.data.toList Sx.tenD=[]
  ·rw [h];rfl
  ·rw [ad h,ad]
   intro e
   exact h (by have:=congrArg (fun b:ByteArray=>b.data.toList) e;simpa using this)
 obtain ⟨b3,h3⟩:=aX (d.data.toList.all Dc.isDig)
 rw [h3] at ht hok
 have ht2:tt.toList.isEmpty=b3:=by rw [<-ht,ByteArray.toList_eq,ByteArray.toList_eq];cases tt.data.toList <;> rfl
 have ht3:tt.data.toList.isEmpty=b3:=by rw [<-ht2,ByteArray.toList_eq]
 clear h3 hd hdl htt
 obtain ⟨b1,h1⟩:=aX (decide (1<=d.size))
 obtain ⟨b2,h2⟩:=aX (decide (d.size<=9))
 have h1':decide ((1:Int)<=(d.size:Int))=b1:=by rw [<-h1];exact le_cast 1 _
 have h2':decide ((d.size:Int)<=(9:Int))=b2:=by rw [<-h2];exact le_cast _ 9
 rw [h1,h2] at hok
 have HOK:=aI hok
 clear hok
 go_enter Tryz.func77,Tryz.ntmps77
 cases b1 <;> cases b2 <;> (go_wp2_with (first | (go_at_call 124;(with_reducible refine (CT.out _).mono ?_);rintro e w1 ⟨rfl,rfl⟩) | (go_at_call 125;(with_reducible refine (CR.out _).mono ?_);rintro e w1 ⟨rfl,hb1⟩;have HB:=aI hb1;clear hb1));go_ret;exact ⟨by rw [HOK.out];cases b3 <;> rfl,by first | exact HB.out | exact Below.refl _ _⟩)
theorem wdS_bs (k:Nat):Sx.bs (wdS k)=Sx.wordsL.getD k []:=by simp [Sx.bs,wdS,Sx.ofT]
theorem wdS_size (k:Nat) (h:k < 9):(wdS k).size<=1000:=by
 match k,h with
 | 0,_ | 1,_ | 2,_ | 3,_ | 4,_ | 5,_ | 6,_ | 7,_ | 8,_=>decide
def LineP (l:List Sx.Txt) (w:World) (e:Ending) (w':World):Prop:=e=.returned (.string ⟨(Sx.lineT l).toArray⟩)/\Below w.heap.size w w'
theorem infoAny:(Tryz.prog.info? 20).map (fun i=>(i.zero,i.size,i.bytes))=some (some .nilIface,1,16):=by kernel_rfl
theorem pfield_0 (nm of_ up:ByteArray) (lo hi:Int) (ws:List ByteArray) (ns:List Int) (us:List Value) (w:World) (h:Mem.rep [] w ((nm,of_,up,0,lo,hi,ws,ns):Fld) us) (hf:Sx.FB ((nm,of_,up,0,lo,hi,ws,ns):Fld)) (he:SEnv w):Calls Tryz.prog 105 #[.agg us.toArray] w (LineP (Sx.fldT ((nm,of_,up,0,lo,hi,ws,ns):Fld)) w):=by
 obtain ⟨A,c,B,d,rfl,s1,s2,a4,a5,a6,a1,a2,a3,b1,b2,e1,e2⟩:=rep_f8 h
 obtain ⟨h1,h2,h3,h4,h5,h6,h7,h8,h9,_⟩:=hf
 replace h1:nm.size<=12:=h1
 replace h2:of_.size<=12:=h2
 replace h3:up.size<=12:=h3
 replace h4:-1048576<=lo/\lo<=1048576:=h4
 replace h5:-1048576<=hi/\hi<=1048576:=h5
 obtain ⟨W1,hW1⟩:=aX (w.alloc (.cells #[.string nm,.string of_,.string up,.int .i64 0,.int .i64 lo,.int .i64 hi,.slice A ws.length c,.slice B ns.length d] 52))
 have hb0:Below w.heap.size w W1:=by rw [<-hW1];exact aP _ _
 have HB:=aI hb0
 have hbk:Blk W1 w.heap.size 52 #[.string nm,.string of_,.string up,.int .i64 0,.int .i64 lo,.int .i64 hi,.slice A ws.length c,.slice B ns.length d]:=by rw [<-hW1];exact Blk.new w _ _
 obtain ⟨c0,c1,c2,c3,c4,c5,c6,c7⟩:=aN8 hbk.cell
 simp at c0 c1 c2 c3 c4 c5 c6 c7
 have he1:=he.below hb0 he.sz
 have cw:=he1.words 0 (by decide)
 have HE:=aI he1
 have HBK:=aI hbk
 obtain ⟨wd,hwd⟩:=aX (wdS 0)
 have hws:wd.size<=1000:=by rw [<-hwd];exact wdS_size 0 (by decide)
 have HWD:=aI (show Sx.bs wd=Sx.wordsL.getD 0 [] by rw [<-hwd];exact wdS_bs 0)
 rw [hwd] at cw
 have HW1:=aI hW1
 show Calls Tryz.prog 105 #[.agg #[.string nm,.string of_,.string up,.int .i64 0,.int .i64 lo,.int .i64 hi,.slice A ws.length c,.slice B ns.length d]] w _
 have HF:=aI (show ∀ a∈([.s nm,.n lo]:List Sx.Av),a.fit by
  intro a ha
  simp only [List.mem_cons,List.not_mem_nil,or_false] at ha
  rcases ha with rfl | rfl
  ·exact (show nm.size<=100 by omega)
  ·exact (show -1000000000<=lo/\lo<=1000000000 by omega))
 have CL:=aI (show Calls Tryz.prog 104 #[.string wd,.slice (some ⟨W1.heap.size,0,none⟩) 2 2] (W1.alloc (.cells #[.iface 9 (.string nm),.iface 3 (.int .i64 lo)] 20)) fun e w'=>e=.returned (.string ⟨(Sx.lineT (Sx.bs wd::[.s nm,.n lo].map Sx.Av.t)).toArray⟩)/\Below W1.heap.size W1 w' from line_new wd [.s nm,.n lo] W1 HF.out (Nat.le_of_lt_succ (by simp)) hws HE.out.t)
 rw [HWD.out] at CL
 clear h s1 s2 a1 a2 a3 a4 a5 a6 b1 b2 e1 e2 h1 h2 h3 h4 h5 h6 h7 h8 h9 hbk hW1 hb0 he1 he hwd
 go_enter Tryz.func105,Tryz.ntmps105
 go_upto_region 1 with fail
 rw [HW1.out]
 go_wp2_with (go_at_call 104;(with_reducible refine (CL.out).mono ?_);rintro e w2 ⟨rfl,hb2⟩;replace HB:=aT HB hb2;clear hb2)
 go_ret
 exact ⟨rfl,HB.out⟩
theorem pfield_2 (nm of_ up:ByteArray) (lo hi:Int) (ws:List ByteArray) (ns:List Int) (us:List Value) (w:World) (h:Mem.rep [] w ((nm,of_,up,2,lo,hi,ws,ns):Fld) us) (hf:Sx.FB ((nm,of_,up,2,lo,hi,ws,ns):Fld)) (he:SEnv w):Calls Tryz.prog 105 #[.agg us.toArray] w (LineP (Sx.fldT ((nm,of_,up,2,lo,hi,ws,ns):Fld)) w):=by
 obtain ⟨A,c,B,d,rfl,s1,s2,a4,a5,a6,a1,a2,a3,b1,b2,e1,e2⟩:=rep_f8 h
 obtain ⟨h1,h2,h3,h4,h5,h6,h7,h8,h9,_⟩:=hf
 replace h1:nm.size<=12:=h1
 replace h2:of_.size<=12:=h2
 replace h3:up.size<=12:=h3
 replace h4:-1048576<=lo/\lo<=1048576:=h4
 replace h5:-1048576<=hi/\hi<=1048576:=h5
 obtain ⟨W1,hW1⟩:=aX (w.alloc (.cells #[.string nm,.string of_,.string up,.int .i64 2,.int .i64 lo,.int .i64 hi,.slice A ws.length c,.slice B ns.length d] 52))
 have hb0:Below w.heap.size w W1:=by rw [<-hW1];exact aP _ _
 have HB:=aI hb0
 have hbk:Blk W1 w.heap.size 52 #[.string nm,.string of_,.string up,.int .i64 2,.int .i64 lo,.int .i64 hi,.slice A ws.length c,.slice B ns.length d]:=by rw [<-hW1];exact Blk.new w _ _
 obtain ⟨c0,c1,c2,c3,c4,c5,c6,c7⟩:=aN8 hbk.cell
 simp at c0 c1 c2 c3 c4 c5 c6 c7
 have he1:=he.below hb0 he.sz
 have cw:=he1.words 2 (by decide)
 have HE:=aI he1
 have HBK:=aI hbk
 obtain ⟨wd,hwd⟩:=aX (wdS 2)
 have hws:wd.size<=1000:=by rw [<-hwd];exact wdS_size 2 (by decide)
 have HWD:=aI (show Sx.bs wd=Sx.wordsL.getD 2 [] by rw [<-hwd];exact wdS_bs 2)
 rw [hwd] at cw
 have HW1:=aI hW1
 show Calls Tryz.prog 105 #[.agg #[.string nm,.string of_,.string up,.int .i64 2,.int .i64 lo,.int .i64 hi,.slice A ws.length c,.slice B ns.length d]] w _
 have HF:=aI (show ∀ a∈([.s nm,.n lo,.n hi]:List Sx.Av),a.fit by
  intro a ha
  simp only [List.mem_cons,List.not_mem_nil,or_false] at ha
  rcases ha with rfl | rfl | rfl
  ·exact (show nm.size<=100 by omega)
  ·exact (show -1000000000<=lo/\lo<=1000000000 by omega)
  ·exact (show -1000000000<=hi/\hi<=1000000000 by omega))
 have CL:=aI (show Calls Tryz.prog 104 #[.string wd,.slice (some ⟨W1.heap.size,0,none⟩) 3 3] (W1.alloc (.cells #[.iface 9 (.string nm),.iface 3 (.int .i64 lo),.iface 3 (.int .i64 hi)] 20)) fun e w'=>e=.returned (.string ⟨(Sx.lineT (Sx.bs wd::[.s nm,.n lo,.n hi].map Sx.Av.t)).toArray⟩)/\Below W1.heap.size W1 w' from line_new wd [.s nm,.n lo,.n hi] W1 HF.out (Nat.le_of_lt_succ (by simp)) hws HE.out.t)
 rw [HWD.out] at CL
 clear h s1 s2 a1 a2 a3 a4 a5 a6 b1 b2 e1 e2 h1 h2 h3 h4 h5 h6 h7 h8 h9 hbk hW1 hb0 he1 he hwd
 go_enter Tryz.func105,Tryz.ntmps105
 go_upto_region 1 with fail
 rw [HW1.out]
 go_wp2_with (go_at_call 104;(with_reducible refine (CL.out).mono ?_);rintro e w2 ⟨rfl,hb2⟩;replace HB:=aT HB hb2;clear hb2)
 go_ret
 exact ⟨rfl,HB.out⟩
theorem pfield_6 (nm of_ up:ByteArray) (lo hi:Int) (ws:List ByteArray) (ns:List Int) (us:List Value) (w:World) (h:Mem.rep [] w ((nm,of_,up,6,lo,hi,ws,ns):Fld) us) (hf:Sx.FB ((nm,of_,up,6,lo,hi,ws,ns):Fld)) (he:SEnv w):Calls Tryz.prog 105 #[.agg us.toArray] w (LineP (Sx.fldT ((nm,of_,up,6,lo,hi,ws,ns):Fld)) w):=by
 obtain ⟨A,c,B,d,rfl,s1,s2,a4,a5,a6,a1,a2,a3,b1,b2,e1,e2⟩:=rep_f8 h
 obtain ⟨h1,h2,h3,h4,h5,h6,h7,h8,h9,_⟩:=hf
 replace h1:nm.size<=12:=h1
 replace h2:of_.size<=12:=h2
 replace h3:up.size<=12:=h3
 replace h4:-1048576<=lo/\lo<=1048576:=h4
 replace h5:-1048576<=hi/\hi<=1048576:=h5
 obtain ⟨W1,hW1⟩:=aX (w.alloc (.cells #[.string nm,.string of_,.string up,.int .i64 6,.int .i64 lo,.int .i64 hi,.slice A ws.length c,.slice B ns.length d] 52))
 have hb0:Below w.heap.size w W1:=by rw [<-hW1];exact aP _ _
 have HB:=aI hb0
 have hbk:Blk W1 w.heap.size 52 #[.string nm,.string of_,.string up,.int .i64 6,.int .i64 lo,.int .i64 hi,.slice A ws.length c,.slice B ns.length d]:=by rw [<-hW1];exact Blk.new w _ _
 obtain ⟨c0,c1,c2,c3,c4,c5,c6,c7⟩:=aN8 hbk.cell
 simp at c0 c1 c2 c3 c4 c5 c6 c7
 have he1:=he.below hb0 he.sz
 have cw:=he1.words 6 (by decide)
 have HE:=aI he1
 have HBK:=aI hbk
 obtain ⟨wd,hwd⟩:=aX (wdS 6)
 have hws:wd.size<=1000:=by rw [<-hwd];exact wdS_size 6 (by decide)
 have HWD:=aI (show Sx.bs wd=Sx.wordsL.getD 6 [] by rw [<-hwd];exact wdS_bs 6)
 rw [hwd] at cw
 have HW1:=aI hW1
 show Calls Tryz.prog 105 #[.agg #[.string nm,.string of_,.string up,.int .i64 6,.int .i64 lo,.int .i64 hi,.slice A ws.length c,.slice B ns.length d]] w _
 have HF:=aI (show ∀ a∈([.s nm,.s of_]:List Sx.Av),a.fit by
  intro a ha
  simp only [List.mem_cons,List.not_mem_nil,or_false] at ha
  rcases ha with rfl | rfl
  ·exact (show nm.size<=100 by omega)
  ·exact (show of_.size<=100 by omega))
 have CL:=aI (show Calls Tryz.prog 104 #[.string wd,.slice (some ⟨W1.heap.size,0,none⟩) 2 2] (W1.alloc (.cells #[.iface 9 (.string nm),.iface 9 (.string of_)] 20)) fun e w'=>e=.returned (.string ⟨(Sx.lineT (Sx.bs wd::[.s nm,.s of_].map Sx.Av.t)).toArray⟩)/\Below W1.heap.size W1 w' from line_new wd [.s nm,.s of_] W1 HF.out (Nat.le_of_lt_succ (by simp)) hws HE.out.t)
 rw [HWD.out] at CL
 clear h s1 s2 a1 a2 a3 a4 a5 a6 b1 b2 e1 e2 h1 h2 h3 h4 h5 h6 h7 h8 h9 hbk hW1 hb0 he1 he hwd
 go_enter Tryz.func105,Tryz.ntmps105
 go_upto_region 1 with fail
 rw [HW1.out]
 go_wp2_with (go_at_call 104;(with_reducible refine (CL.out).mono ?_);rintro e w2 ⟨rfl,hb2⟩;replace HB:=aT HB hb2;clear hb2)
 go_ret
 exact ⟨rfl,HB.out⟩
theorem pfield_7 (nm of_ up:ByteArray) (lo hi:Int) (ws:List ByteArray) (ns:List Int) (us:List Value) (w:World) (h:Mem.rep [] w ((nm,of_,up,7,lo,hi,ws,ns):Fld) us) (hf:Sx.FB ((nm,of_,up,7,lo,hi,ws,ns):Fld)) (he:SEnv w):Calls Tryz.prog 105 #[.agg us.toArray] w (LineP (Sx.fldT ((nm,of_,up,7,lo,hi,ws,ns):Fld)) w):=by
 obtain ⟨A,c,B,d,rfl,s1,s2,a4,a5,a6,a1,a2,a3,b1,b2,e1,e2⟩:=rep_f8 h
 obtain ⟨h1,h2,h3,h4,h5,h6,h7,h8,h9,_⟩:=hf
 replace h1:nm.size<=12:=h1
 replace h2:of_.size<=12:=h2
 replace h3:up.size<=12:=h3
 replace h4:-1048576<=lo/\lo<=1048576:=h4
 replace h5:-1048576<=hi/\hi<=1048576:=h5
 obtain ⟨W1,hW1⟩:=aX (w.alloc (.cells #[.string nm,.string of_,.string up,.int .i64 7,.int .i64 lo,.int .i64 hi,.slice A ws.length c,.slice B ns.length d] 52))
 have hb0:Below w.heap.size w W1:=by rw [<-hW1];exact aP _ _
 have HB:=aI hb0
 have hbk:Blk W1 w.heap.size 52 #[.string nm,.string of_,.string up,.int .i64 7,.int .i64 lo,.int .i64 hi,.slice A ws.length c,.slice B ns.length d]:=by rw [<-hW1];exact Blk.new w _ _
 obtain ⟨c0,c1,c2,c3,c4,c5,c6,c7⟩:=aN8 hbk.cell
 simp at c0 c1 c2 c3 c4 c5 c6 c7
 have he1:=he.below hb0 he.sz
 have cw:=he1.words 7 (by decide)
 have HE:=aI he1
 have HBK:=aI hbk
 obtain ⟨wd,hwd⟩:=aX (wdS 7)
 have hws:wd.size<=1000:=by rw [<-hwd];exact wdS_size 7 (by decide)
 have HWD:=aI (show Sx.bs wd=Sx.wordsL.getD 7 [] by rw [<-hwd];exact wdS_bs 7)
 rw [hwd] at cw
 have HW1:=aI hW1
 show Calls Tryz.prog 105 #[.agg #[.string nm,.string of_,.string up,.int .i64 7,.int .i64 lo,.int .i64 hi,.slice A ws.length c,.slice B ns.length d]] w _
 have HF:=aI (show ∀ a∈([.s nm,.s up,.s of_,.n lo,.n hi]:List Sx.Av),a.fit by
  intro a ha
  simp only [List.mem_cons,List.not_mem_nil,or_false] at ha
  rcases ha with rfl | rfl | rfl | rfl | rfl
  ·exact (show nm.size<=100 by omega)
  ·exact (show up.size<=100 by omega)
  ·exact (show of_.size<=100 by omega)
  ·exact (show -1000000000<=lo/\lo<=1000000000 by omega)
  ·exact (show -1000000000<=hi/\hi<=1000000000 by omega))
 have CL:=aI (show Calls Tryz.prog 104 #[.string wd,.slice (some ⟨W1.heap.size,0,none⟩) 5 5] (W1.alloc (.cells #[.iface 9 (.string nm),.iface 9 (.string up),.iface 9 (.string of_),.iface 3 (.int .i64 lo),.iface 3 (.int .i64 hi)] 20)) fun e w'=>e=.returned (.string ⟨(Sx.lineT (Sx.bs wd::[.s nm,.s up,.s of_,.n lo,.n hi].map Sx.Av.t)).toArray⟩)/\Below W1.heap.size W1 w' from line_new wd [.s nm,.s up,.s of_,.n lo,.n hi] W1 HF.out (Nat.le_of_lt_succ (by simp)) hws HE.out.t)
 rw [HWD.out] at CL
 clear h s1 s2 a1 a2 a3 a4 a5 a6 b1 b2 e1 e2 h1 h2 h3 h4 h5 h6 h7 h8 h9 hbk hW1 hb0 he1 he hwd
 go_enter Tryz.func105,Tryz.ntmps105
 go_upto_region 1 with fail
 rw [HW1.out]
 go_wp2_with (go_at_call 104;(with_reducible refine (CL.out).mono ?_);rintro e w2 ⟨rfl,hb2⟩;replace HB:=aT HB hb2;clear hb2)
 go_ret
 exact ⟨rfl,HB.out⟩
theorem pfield_8 (nm of_ up:ByteArray) (lo hi:Int) (ws:List ByteArray) (ns:List Int) (us:List Value) (w:World) (h:Mem.rep [] w ((nm,of_,up,8,lo,hi,ws,ns):Fld) us) (hf:Sx.FB ((nm,of_,up,8,lo,hi,ws,ns):Fld)) (he:SEnv w):Calls Tryz.prog 105 #[.agg us.toArray] w (LineP (Sx.fldT ((nm,of_,up,8,lo,hi,ws,ns):Fld)) w):=by
 obtain ⟨A,c,B,d,rfl,s1,s2,a4,a5,a6,a1,a2,a3,b1,b2,e1,e2⟩:=rep_f8 h
 obtain ⟨h1,h2,h3,h4,h5,h6,h7,h8,h9,_⟩:=hf
 replace h1:nm.size<=12:=h1
 replace h2:of_.size<=12:=h2
 replace h3:up.size<=12:=h3
 replace h4:-1048576<=lo/\lo<=1048576:=h4
 replace h5:-1048576<=hi/\hi<=1048576:=h5
 obtain ⟨W1,hW1⟩:=aX (w.alloc (.cells #[.string nm,.string of_,.string up,.int .i64 8,.int .i64 lo,.int .i64 hi,.slice A ws.length c,.slice B ns.length d] 52))
 have hb0:Below w.heap.size w W1:=by rw [<-hW1];exact aP _ _
 have HB:=aI hb0
 have hbk:Blk W1 w.heap.size 52 #[.string nm,.string of_,.string up,.int .i64 8,.int .i64 lo,.int .i64 hi,.slice A ws.length c,.slice B ns.length d]:=by rw [<-hW1];exact Blk.new w _ _
 obtain ⟨c0,c1,c2,c3,c4,c5,c6,c7⟩:=aN8 hbk.cell
 simp at c0 c1 c2 c3 c4 c5 c6 c7
 have he1:=he.below hb0 he.sz
 have cw:=he1.words 8 (by decide)
 have HE:=aI he1
 have HBK:=aI hbk
 obtain ⟨wd,hwd⟩:=aX (wdS 8)
 have hws:wd.size<=1000:=by rw [<-hwd];exact wdS_size 8 (by decide)
 have HWD:=aI (show Sx.bs wd=Sx.wordsL.getD 8 [] by rw [<-hwd];exact wdS_bs 8)
 rw [hwd] at cw
 have HW1:=aI hW1
 show Calls Tryz.prog 105 #[.agg #[.string nm,.string of_,.string up,.int .i64 8,.int .i64 lo,.int .i64 hi,.slice A ws.length c,.slice B ns.length d]] w _
 have HF:=aI (show ∀ a∈([.s nm,.s up,.s of_]:List Sx.Av),a.fit by
  intro a ha
  simp only [List.mem_cons,List.not_mem_nil,or_false] at ha
  rcases ha with rfl | rfl | rfl
  ·exact (show nm.size<=100 by omega)
  ·exact (show up.size<=100 by omega)
  ·exact (show of_.size<=100 by omega))
 have CL:=aI (show Calls Tryz.prog 104 #[.string wd,.slice (some ⟨W1.heap.size,0,none⟩) 3 3] (W1.alloc (.cells #[.iface 9 (.string nm),.iface 9 (.string up),.iface 9 (.string of_)] 20)) fun e w'=>e=.returned (.string ⟨(Sx.lineT (Sx.bs wd::[.s nm,.s up,.s of_].map Sx.Av.t)).toArray⟩)/\Below W1.heap.size W1 w' from line_new wd [.s nm,.s up,.s of_] W1 HF.out (Nat.le_of_lt_succ (by simp)) hws HE.out.t)
 rw [HWD.out] at CL
 clear h s1 s2 a1 a2 a3 a4 a5 a6 b1 b2 e1 e2 h1 h2 h3 h4 h5 h6 h7 h8 h9 hbk hW1 hb0 he1 he hwd
 go_enter Tryz.func105,Tryz.ntmps105
 go_upto_region 1 with fail
 rw [HW1.out]
 go_wp2_with (go_at_call 104;(with_reducible refine (CL.out).mono ?_);rintro e w2 ⟨rfl,hb2⟩;replace HB:=aT HB hb2;clear hb2)
 go_ret
 exact ⟨rfl,HB.out⟩
theorem pfield_1 (nm of_ up:ByteArray) (lo hi:Int) (ws:List ByteArray) (ns:List Int) (us:List Value) (w:World) (h:Mem.rep [] w ((nm,of_,up,1,lo,hi,ws,ns):Fld) us) (hf:Sx.FB ((nm,of_,up,1,lo,hi,ws,ns):Fld)) (he:SEnv w):Calls Tryz.prog 105 #[.agg us.toArray] w (LineP (Sx.fldT ((nm,of_,up,1,lo,hi,ws,ns):Fld)) w):=by
 obtain ⟨A,c,B,d,rfl,s1,s2,a4,a5,a6,a1,a2,a3,b1,b2,e1,e2⟩:=rep_f8 h
 obtain ⟨h1,h2,h3,h4,h5,h6,h7,h8,h9,_⟩:=hf
 replace h1:nm.size<=12:=h1
 replace h2:of_.size<=12:=h2
 replace h3:up.size<=12:=h3
 replace h4:-1048576<=lo/\lo<=1048576:=h4
 replace h5:-1048576<=hi/\hi<=1048576:=h5
 obtain ⟨W1,hW1⟩:=aX (w.alloc (.cells #[.string nm,.string of_,.string up,.int .i64 1,.int .i64 lo,.int .i64 hi,.slice A ws.length c,.slice B ns.length d] 52))
 have hb0:Below w.heap.size w W1:=by rw [<-hW1];exact aP _ _
 have HB:=aI hb0
 have hbk:Blk W1 w.heap.size 52 #[.string nm,.string of_,.string up,.int .i64 1,.int .i64 lo,.int .i64 hi,.slice A ws.length c,.slice B ns.length d]:=by rw [<-hW1];exact Blk.new w _ _
 obtain ⟨c0,c1,c2,c3,c4,c5,c6,c7⟩:=aN8 hbk.cell
 simp at c0 c1 c2 c3 c4 c5 c6 c7
 have he1:=he.below hb0 he.sz
 have cw:=he1.words 1 (by decide)
 have HE:=aI he1
 have HBK:=aI hbk
 obtain ⟨wd,hwd⟩:=aX (wdS 1)
 have hws:wd.size<=1000:=by rw [<-hwd];exact wdS_size 1 (by decide)
 have HWD:=aI (show Sx.bs wd=Sx.wordsL.getD 1 [] by rw [<-hwd];exact wdS_bs 1)
 rw [hwd] at cw
 have HW1:=aI hW1
 show Calls Tryz.prog 105 #[.agg #[.string nm,.string of_,.string up,.int .i64 1,.int .i64 lo,.int .i64 hi,.slice A ws.length c,.slice B ns.length d]] w _
 have HF:=aI (show ∀ a∈([.s nm,.s (Sx.orN of_),.n lo,.n hi]:List Sx.Av),a.fit by
  intro a ha
  simp only [List.mem_cons,List.not_mem_nil,or_false] at ha
  rcases ha with rfl | rfl | rfl | rfl
  ·exact (show nm.size<=100 by omega)
  ·exact (show (Sx.orN of_).size<=100 from Sx.orN_sz (by omega) (by decide))
  ·exact (show -1000000000<=lo/\lo<=1000000000 by omega)
  ·exact (show -1000000000<=hi/\hi<=1000000000 by omega))
 have CN:=aI (fun w=>named_any of_ w)
 have CL:=aI (fun (g:Nat) (W:World) (hB:Blk W g 20 #[.iface 9 (.string nm),.iface 9 (.string (Sx.orN of_)),.iface 3 (.int .i64 lo),.iface 3 (.int .i64 hi)]) (hb:Below W1.heap.size W1 W)=>show Calls Tryz.prog 104 #[.string wd,.slice (some ⟨g,0,none⟩) 4 4] W fun e w'=>e=.returned (.string ⟨(Sx.lineT (Sx.bs wd::[.s nm,.s (Sx.orN of_),.n lo,.n hi].map Sx.Av.t)).toArray⟩)/\Below W.heap.size W w' from line_any wd [.s nm,.s (Sx.orN of_),.n lo,.n hi] (some ⟨g,0,none⟩) 4 W (SlAt.of_blk (flat_avs HF.out) (show Blk W g 20 (avCells [.s nm,.s (Sx.orN of_),.n lo,.n hi]).toArray from hB) (by simp)) (fun a ha=>(HF.out a ha).ok) (Nat.le_of_lt_succ (by simp)) hws (HE.out.t.below hb HE.out.t.sz))
 rw [HWD.out] at CL
 have HC:=aI (fun (W':World) (hb:Below W1.heap.size W1 W')=>hb.block w.heap.size hbk.lt)
 clear h s1 s2 a1 a2 a3 a4 a5 a6 b1 b2 e1 e2 h1 h2 h3 h4 h5 h6 h7 h8 h9 hbk hW1 hb0 he1 he hwd
 go_enter Tryz.func105,Tryz.ntmps105
 go_upto_region 1 with fail
 rw [HW1.out]
 go_wp2_with fail
 clear c0 c1 c2 c3 c4 c5 c6 c7
 apply wp_region_typed (C:=fun w'=>Below W1.heap.size W1 w') (n:=132) (m:=17) (l1:=[_,_,_,_,_,_,_,_,_,_,_,_,_,_,_,_,_]) (l2:=[])
 ·rfl
 ·rfl
 ·kernel_rfl
 ·rfl
 ·kernel_rfl
 ·exact ⟨rfl,rfl,rfl,ag _,fun _ _=>rfl⟩
 ·exact fun u u' h hb=>(by first | exact h.below hb | exact h.trans (hb.mono h.size))
 (apply wpT_exact;· (intro w' hC hf;unfold Gives;clear hf hC;go_wp2_with (fail);apply postT_val rfl (Below.refl _ _);simp only [valAt,aV];exact rfl));(try simp only [Act.put,aZ])
 iterate 5 ((apply wpT_exact;· (intro w' hC hf;unfold Gives;have hbk:=HBK.out.below hC HBK.out.lt;obtain ⟨c0,c1⟩:=aN2 hbk.cell;have c4:=hbk.cell 4;have c5:=hbk.cell 5;simp at c0 c1 c4 c5;clear hbk;clear hf hC;go_wp2_with (fail);apply postT_val rfl (Below.refl _ _);simp only [valAt,aV];exact rfl));(try simp only [Act.put,aZ]))
 (apply wpT_exact;· (intro w' hC hf;unfold Gives;clear hf hC;go_wp2_with (go_at_call 106;(with_reducible refine (CN.out _).mono ?_);rintro e w2 ⟨rfl,hb2⟩);apply postT_val rfl (by assumption);simp only [valAt,aV];exact rfl));(try simp only [Act.put,aZ])
 iterate 7 ((apply wpT_exact;· (intro w' hC hf;unfold Gives;have hbk:=HBK.out.below hC HBK.out.lt;obtain ⟨c0,c1⟩:=aN2 hbk.cell;have c4:=hbk.cell 4;have c5:=hbk.cell 5;simp at c0 c1 c4 c5;clear hbk;clear hf hC;go_wp2_with (fail);apply postT_val rfl (Below.refl _ _);simp only [valAt,aV];exact rfl));(try simp only [Act.put,aZ]))
 apply wpT_typed (slBlk_kept 4 20 #[.iface 9 (.string nm),.iface 9 (.string (Sx.orN of_)),.iface 3 (.int .i64 lo),.iface 3 (.int .i64 hi)])
 ·intro w' hC hf;unfold Gives;clear hf hC;go_wp2_with fail;apply postT_mk rfl (by go_grown);simp only [valAt,aV];exact ⟨_,rfl,Blk.new _ _ _⟩
 intro vsl;(try simp only [Act.put,aZ])
 (apply wpT_exact;· (intro w' hC hf;unfold Gives;obtain ⟨g,rfl,hB⟩:=hf.1 rfl;have CQ:=aI (CL.out g w' hB hC);clear hf hC hB;go_wp2_with (go_at_call 104;(with_reducible refine (CQ.out).mono ?_);rintro e w2 ⟨rfl,hb2⟩);apply postT_val rfl (by assumption);simp only [valAt,aV];exact rfl));(try simp only [Act.put,aZ])
 (apply wpT_exact;· (intro w' hC hf;unfold Gives;clear hf hC;go_wp2_with (fail);apply postT_val rfl (Below.refl _ _);simp only [valAt,aV];exact rfl));(try simp only [Act.put,aZ])
 apply wpT_done
 intro w4 hC _
 replace HB:=aT HB hC
 clear hC
 go_wp2_with fail
 go_ret
 exact ⟨by rw [show Sx.lineT (Sx.fldT ((nm,of_,up,1,lo,hi,ws,ns):Fld))=Sx.lineT (Sx.wordsL.getD 1 []::[.s nm,.s (Sx.orN of_),.n lo,.n hi].map Sx.Av.t) by show _=Sx.lineT [_,_,Sx.bs (Sx.orN of_),_,_];rw [Sx.orN_list];rfl];rfl,HB.out⟩
theorem pfield_4 (nm of_ up:ByteArray) (lo hi:Int) (ws:List ByteArray) (ns:List Int) (us:List Value) (w:World) (h:Mem.rep [] w ((nm,of_,up,4,lo,hi,ws,ns):Fld) us) (hf:Sx.FB ((nm,of_,up,4,lo,hi,ws,ns):Fld)) (he:SEnv w):Calls Tryz.prog 105 #[.agg us.toArray] w (LineP (Sx.fldT ((nm,of_,up,4,lo,hi,ws,ns):Fld)) w):=by
 obtain ⟨A,c,B,d,rfl,s1,s2,a4,a5,a6,a1,a2,a3,b1,b2,e1,e2⟩:=rep_f8 h
 obtain ⟨h1,h2,h3,h4,h5,h6,h7,h8,h9,_⟩:=hf
 replace h1:nm.size<=12:=h1
 replace h2:of_.size<=12:=h2
 replace h3:up.size<=12:=h3
 replace h4:-1048576<=lo/\lo<=1048576:=h4
 replace h5:-1048576<=hi/\hi<=1048576:=h5
 obtain ⟨W1,hW1⟩:=aX (w.alloc (.cells #[.string nm,.string of_,.string up,.int .i64 4,.int .i64 lo,.int .i64 hi,.slice A ws.length c,.slice B ns.length d] 52))
 have hb0:Below w.heap.size w W1:=by rw [<-hW1];exact aP _ _
 have HB:=aI hb0
 have hbk:Blk W1 w.heap.size 52 #[.string nm,.string of_,.string up,.int .i64 4,.int .i64 lo,.int .i64 hi,.slice A ws.length c,.slice B ns.length d]:=by rw [<-hW1];exact Blk.new w _ _
 obtain ⟨c0,c1,c2,c3,c4,c5,c6,c7⟩:=aN8 hbk.cell
 simp at c0 c1 c2 c3 c4 c5 c6 c7
 have he1:=he.below hb0 he.sz
 have cw:=he1.words 4 (by decide)
 have HE:=aI he1
 have HBK:=aI hbk
 obtain ⟨wd,hwd⟩:=aX (wdS 4)
 have hws:wd.size<=1000:=by rw [<-hwd];exact wdS_size 4 (by decide)
 have HWD:=aI (show Sx.bs wd=Sx.wordsL.getD 4 [] by rw [<-hwd];exact wdS_bs 4)
 rw [hwd] at cw
 have HW1:=aI hW1
 show Calls Tryz.prog 105 #[.agg #[.string nm,.string of_,.string up,.int .i64 4,.int .i64 lo,.int .i64 hi,.slice A ws.length c,.slice B ns.length d]] w _
 have HF:=aI (show ∀ a∈([.s nm,.s (Sx.orN of_),.n lo,.n hi]:List Sx.Av),a.fit by
  intro a ha
  simp only [List.mem_cons,List.not_mem_nil,or_false] at ha
  rcases ha with rfl | rfl | rfl | rfl
  ·exact (show nm.size<=100 by omega)
  ·exact (show (Sx.orN of_).size<=100 from Sx.orN_sz (by omega) (by decide))
  ·exact (show -1000000000<=lo/\lo<=1000000000 by omega)
  ·exact (show -1000000000<=hi/\hi<=1000000000 by omega))
 have CN:=aI (fun w=>named_any of_ w)
 have CL:=aI (fun (g:Nat) (W:World) (hB:Blk W g 20 #[.iface 9 (.string nm),.iface 9 (.string (Sx.orN of_)),.iface 3 (.int .i64 lo),.iface 3 (.int .i64 hi)]) (hb:Below W1.heap.size W1 W)=>show Calls Tryz.prog 104 #[.string wd,.slice (some ⟨g,0,none⟩) 4 4] W fun e w'=>e=.returned (.string ⟨(Sx.lineT (Sx.bs wd::[.s nm,.s (Sx.orN of_),.n lo,.n hi].map Sx.Av.t)).toArray⟩)/\Below W.heap.size W w' from line_any wd [.s nm,.s (Sx.orN of_),.n lo,.n hi] (some ⟨g,0,none⟩) 4 W (SlAt.of_blk (flat_avs HF.out) (show Blk W g 20 (avCells [.s nm,.s (Sx.orN of_),.n lo,.n hi]).toArray from hB) (by simp)) (fun a ha=>(HF.out a ha).ok) (Nat.le_of_lt_succ (by simp)) hws (HE.out.t.below hb HE.out.t.sz))
 rw [HWD.out] at CL
 have HC:=aI (fun (W':World) (hb:Below W1.heap.size W1 W')=>hb.block w.heap.size hbk.lt)
 clear h s1 s2 a1 a2 a3 a4 a5 a6 b1 b2 e1 e2 h1 h2 h3 h4 h5 h6 h7 h8 h9 hbk hW1 hb0 he1 he hwd
 go_enter Tryz.func105,Tryz.ntmps105
 go_upto_region 1 with fail
 rw [HW1.out]
 go_wp2_with fail
 clear c0 c1 c2 c3 c4 c5 c6 c7
 apply wp_region_typed (C:=fun w'=>Below W1.heap.size W1 w') (n:=132) (m:=17) (l1:=[_,_,_,_,_,_,_,_,_,_,_,_,_,_,_,_,_]) (l2:=[])
 ·rfl
 ·rfl
 ·kernel_rfl
 ·rfl
 ·kernel_rfl
 ·exact ⟨rfl,rfl,rfl,ag _,fun _ _=>rfl⟩
 ·exact fun u u' h hb=>(by first | exact h.below hb | exact h.trans (hb.mono h.size))
 (apply wpT_exact;· (intro w' hC hf;unfold Gives;clear hf hC;go_wp2_with (fail);apply postT_val rfl (Below.refl _ _);simp only [valAt,aV];exact rfl));(try simp only [Act.put,aZ])
 iterate 5 ((apply wpT_exact;· (intro w' hC hf;unfold Gives;have hbk:=HBK.out.below hC HBK.out.lt;obtain ⟨c0,c1⟩:=aN2 hbk.cell;have c4:=hbk.cell 4;have c5:=hbk.cell 5;simp at c0 c1 c4 c5;clear hbk;clear hf hC;go_wp2_with (fail);apply postT_val rfl (Below.refl _ _);simp only [valAt,aV];exact rfl));(try simp only [Act.put,aZ]))
 (apply wpT_exact;· (intro w' hC hf;unfold Gives;clear hf hC;go_wp2_with (go_at_call 106;(with_reducible refine (CN.out _).mono ?_);rintro e w2 ⟨rfl,hb2⟩);apply postT_val rfl (by assumption);simp only [valAt,aV];exact rfl));(try simp only [Act.put,aZ])
 iterate 7 ((apply wpT_exact;· (intro w' hC hf;unfold Gives;have hbk:=HBK.out.below hC HBK.out.lt;obtain ⟨c0,c1⟩:=aN2 hbk.cell;have c4:=hbk.cell 4;have c5:=hbk.cell 5;simp at c0 c1 c4 c5;clear hbk;clear hf hC;go_wp2_with (fail);apply postT_val rfl (Below.refl _ _);simp only [valAt,aV];exact rfl));(try simp only [Act.put,aZ]))
 apply wpT_typed (slBlk_kept 4 20 #[.iface 9 (.string nm),.iface 9 (.string (Sx.orN of_)),.iface 3 (.int .i64 lo),.iface 3 (.int .i64 hi)])
 ·intro w' hC hf;unfold Gives;clear hf hC;go_wp2_with fail;apply postT_mk rfl (by go_grown);simp only [valAt,aV];exact ⟨_,rfl,Blk.new _ _ _⟩
 intro vsl;(try simp only [Act.put,aZ])
 (apply wpT_exact;· (intro w' hC hf;unfold Gives;obtain ⟨g,rfl,hB⟩:=hf.1 rfl;have CQ:=aI (CL.out g w' hB hC);clear hf hC hB;go_wp2_with (go_at_call 104;(with_reducible refine (CQ.out).mono ?_);rintro e w2 ⟨rfl,hb2⟩);apply postT_val rfl (by assumption);simp only [valAt,aV];exact rfl));(try simp only [Act.put,aZ])
 (apply wpT_exact;· (intro w' hC hf;unfold Gives;clear hf hC;go_wp2_with (fail);apply postT_val rfl (Below.refl _ _);simp only [valAt,aV];exact rfl));(try simp only [Act.put,aZ])
 apply wpT_done
 intro w4 hC _
 replace HB:=aT HB hC
 clear hC
 go_wp2_with fail
 go_ret
 exact ⟨by rw [show Sx.lineT (Sx.fldT ((nm,of_,up,4,lo,hi,ws,ns):Fld))=Sx.lineT (Sx.wordsL.getD 4 []::[.s nm,.s (Sx.orN of_),.n lo,.n hi].map Sx.Av.t) by show _=Sx.lineT [_,_,Sx.bs (Sx.orN of_),_,_];rw [Sx.orN_list];rfl];rfl,HB.out⟩
theorem pfield_5 (nm of_ up:ByteArray) (lo hi:Int) (ws:List ByteArray) (ns:List Int) (us:List Value) (w:World) (h:Mem.rep [] w ((nm,of_,up,5,lo,hi,ws,ns):Fld) us) (hf:Sx.FB ((nm,of_,up,5,lo,hi,ws,ns):Fld)) (he:SEnv w):Calls Tryz.prog 105 #[.agg us.toArray] w (LineP (Sx.fldT ((nm,of_,up,5,lo,hi,ws,ns):Fld)) w):=by
 obtain ⟨A,c,B,d,rfl,s1,s2,a4,a5,a6,a1,a2,a3,b1,b2,e1,e2⟩:=rep_f8 h
 obtain ⟨h1,h2,h3,h4,h5,h6,h7,h8,h9,_⟩:=hf
 replace h1:nm.size<=12:=h1
 replace h2:of_.size<=12:=h2
 replace h3:up.size<=12:=h3
 replace h4:-1048576<=lo/\lo<=1048576:=h4
 replace h5:-1048576<=hi/\hi<=1048576:=h5
 obtain ⟨W1,hW1⟩:=aX (w.alloc (.cells #[.string nm,.string of_,.string up,.int .i64 5,.int .i64 lo,.int .i64 hi,.slice A ws.length c,.slice B ns.length d] 52))
 have hb0:Below w.heap.size w W1:=by rw [<-hW1];exact aP _ _
 have HB:=aI hb0
 have hbk:Blk W1 w.heap.size 52 #[.string nm,.string of_,.string up,.int .i64 5,.int .i64 lo,.int .i64 hi,.slice A ws.length c,.slice B ns.length d]:=by rw [<-hW1];exact Blk.new w _ _
 obtain ⟨c0,c1,c2,c3,c4,c5,c6,c7⟩:=aN8 hbk.cell
 simp at c0 c1 c2 c3 c4 c5 c6 c7
 have he1:=he.below hb0 he.sz
 have cw:=he1.words 5 (by decide)
 have HE:=aI he1
 have HBK:=aI hbk
 obtain ⟨wd,hwd⟩:=aX (wdS 5)
 have hws:wd.size<=1000:=by rw [<-hwd];exact wdS_size 5 (by decide)
 have HWD:=aI (show Sx.bs wd=Sx.wordsL.getD 5 [] by rw [<-hwd];exact wdS_bs 5)
 rw [hwd] at cw
 have HW1:=aI hW1
 show Calls Tryz.prog 105 #[.agg #[.string nm,.string of_,.string up,.int .i64 5,.int .i64 lo,.int .i64 hi,.slice A ws.length c,.slice B ns.length d]] w _
 have HF:=aI (show ∀ a∈([.s nm,.s (Sx.orN of_),.n lo,.n hi]:List Sx.Av),a.fit by
  intro a ha
  simp only [List.mem_cons,List.not_mem_nil,or_false] at ha
  rcases ha with rfl | rfl | rfl | rfl
  ·exact (show nm.size<=100 by omega)
  ·exact (show (Sx.orN of_).size<=100 from Sx.orN_sz (by omega) (by decide))
  ·exact (show -1000000000<=lo/\lo<=1000000000 by omega)
  ·exact (show -1000000000<=hi/\hi<=1000000000 by omega))
 have CN:=aI (fun w=>named_any of_ w)
 have CL:=aI (fun (g:Nat) (W:World) (hB:Blk W g 20 #[.iface 9 (.string nm),.iface 9 (.string (Sx.orN of_)),.iface 3 (.int .i64 lo),.iface 3 (.int .i64 hi)]) (hb:Below W1.heap.size W1 W)=>show Calls Tryz.prog 104 #[.string wd,.slice (some ⟨g,0,none⟩) 4 4] W fun e w'=>e=.returned (.string ⟨(Sx.lineT (Sx.bs wd::[.s nm,.s (Sx.orN of_),.n lo,.n hi].map Sx.Av.t)).toArray⟩)/\Below W.heap.size W w' from line_any wd [.s nm,.s (Sx.orN of_),.n lo,.n hi] (some ⟨g,0,none⟩) 4 W (SlAt.of_blk (flat_avs HF.out) (show Blk W g 20 (avCells [.s nm,.s (Sx.orN of_),.n lo,.n hi]).toArray from hB) (by simp)) (fun a ha=>(HF.out a ha).ok) (Nat.le_of_lt_succ (by simp)) hws (HE.out.t.below hb HE.out.t.sz))
 rw [HWD.out] at CL
 have HC:=aI (fun (W':World) (hb:Below W1.heap.size W1 W')=>hb.block w.heap.size hbk.lt)
 clear h s1 s2 a1 a2 a3 a4 a5 a6 b1 b2 e1 e2 h1 h2 h3 h4 h5 h6 h7 h8 h9 hbk hW1 hb0 he1 he hwd
 go_enter Tryz.func105,Tryz.ntmps105
 go_upto_region 1 with fail
 rw [HW1.out]
 go_wp2_with fail
 clear c0 c1 c2 c3 c4 c5 c6 c7
 apply wp_region_typed (C:=fun w'=>Below W1.heap.size W1 w') (n:=132) (m:=17) (l1:=[_,_,_,_,_,_,_,_,_,_,_,_,_,_,_,_,_]) (l2:=[])
 ·rfl
 ·rfl
 ·kernel_rfl
 ·rfl
 ·kernel_rfl
 ·exact ⟨rfl,rfl,rfl,ag _,fun _ _=>rfl⟩
 ·exact fun u u' h hb=>(by first | exact h.below hb | exact h.trans (hb.mono h.size))
 (apply wpT_exact;· (intro w' hC hf;unfold Gives;clear hf hC;go_wp2_with (fail);apply postT_val rfl (Below.refl _ _);simp only [valAt,aV];exact rfl));(try simp only [Act.put,aZ])
 iterate 5 ((apply wpT_exact;· (intro w' hC hf;unfold Gives;have hbk:=HBK.out.below hC HBK.out.lt;obtain ⟨c0,c1⟩:=aN2 hbk.cell;have c4:=hbk.cell 4;have c5:=hbk.cell 5;simp at c0 c1 c4 c5;clear hbk;clear hf hC;go_wp2_with (fail);apply postT_val rfl (Below.refl _ _);simp only [valAt,aV];exact rfl));(try simp only [Act.put,aZ]))
 (apply wpT_exact;· (intro w' hC hf;unfold Gives;clear hf hC;go_wp2_with (go_at_call 106;(with_reducible refine (CN.out _).mono ?_);rintro e w2 ⟨rfl,hb2⟩);apply postT_val rfl (by assumption);simp only [valAt,aV];exact rfl));(try simp only [Act.put,aZ])
 iterate 7 ((apply wpT_exact;· (intro w' hC hf;unfold Gives;have hbk:=HBK.out.below hC HBK.out.lt;obtain ⟨c0,c1⟩:=aN2 hbk.cell;have c4:=hbk.cell 4;have c5:=hbk.cell 5;simp at c0 c1 c4 c5;clear hbk;clear hf hC;go_wp2_with (fail);apply postT_val rfl (Below.refl _ _);simp only [valAt,aV];exact rfl));(try simp only [Act.put,aZ]))
 apply wpT_typed (slBlk_kept 4 20 #[.iface 9 (.string nm),.iface 9 (.string (Sx.orN of_)),.iface 3 (.int .i64 lo),.iface 3 (.int .i64 hi)])
 ·intro w' hC hf;unfold Gives;clear hf hC;go_wp2_with fail;apply postT_mk rfl (by go_grown);simp only [valAt,aV];exact ⟨_,rfl,Blk.new _ _ _⟩
 intro vsl;(try simp only [Act.put,aZ])
 (apply wpT_exact;· (intro w' hC hf;unfold Gives;obtain ⟨g,rfl,hB⟩:=hf.1 rfl;have CQ:=aI (CL.out g w' hB hC);clear hf hC hB;go_wp2_with (go_at_call 104;(with_reducible refine (CQ.out).mono ?_);rintro e w2 ⟨rfl,hb2⟩);apply postT_val rfl (by assumption);simp only [valAt,aV];exact rfl));(try simp only [Act.put,aZ])
 (apply wpT_exact;· (intro w' hC hf;unfold Gives;clear hf hC;go_wp2_with (fail);apply postT_val rfl (Below.refl _ _);simp only [valAt,aV];exact rfl));(try simp only [Act.put,aZ])
 apply wpT_done
 intro w4 hC _
 replace HB:=aT HB hC
 clear hC
 go_wp2_with fail
 go_ret
 exact ⟨by rw [show Sx.lineT (Sx.fldT ((nm,of_,up,5,lo,hi,ws,ns):Fld))=Sx.lineT (Sx.wordsL.getD 5 []::[.s nm,.s (Sx.orN of_),.n lo,.n hi].map Sx.Av.t) by show _=Sx.lineT [_,_,Sx.bs (Sx.orN of_),_,_];rw [Sx.orN_list];rfl];rfl,HB.out⟩
namespace Sx
def pickAv:List ByteArray->List Int->List Av
 | w::ws,n::ns=>.s w::.n n::pickAv ws ns
 | _,_=>[]
theorem pickAv_t:∀ (ws:List ByteArray) (ns:List Int),(pickAv ws ns).map Av.t=picksT ws ns
 | [],_=>rfl
 | _::_,[]=>rfl
 | w::ws,n::ns=>by
  show bs w::num n::(pickAv ws ns).map Av.t=bs w::num n::picksT ws ns
  rw [pickAv_t ws ns]
theorem pickAv_snoc:∀ (ws:List ByteArray) (ns:List Int) (k:Nat) (h1:k < ws.length) (h2:k < ns.length),pickAv (ws.take k) (ns.take k)++[.s ws[k],.n ns[k]]=pickAv (ws.take (k+1)) (ns.take (k+1))
 | w::ws,n::ns,0,_,_=>rfl
 | w::ws,n::ns,k+1,h1,h2=>by
  have:=pickAv_snoc ws ns k (by simpa using h1) (by simpa using h2)
  show Av.s w::Av.n n::(pickAv (ws.take k) (ns.take k)++[.s (ws[k]'(by simpa using h1)),.n (ns[k]'(by simpa using h2))])=Av.s w::Av.n n::pickAv (ws.take (k+1)) (ns.take (k+1))
  rw [this]
theorem pickAv_len:∀ (ws:List ByteArray) (ns:List Int),ws.length=ns.length->(pickAv ws ns).length=2*ws.length
 | [],[],_=>rfl
 | w::ws,n::ns,h=>by
  have:=pickAv_len ws ns (by simpa using h)
  show (pickAv ws ns).length+1+1=2*(ws.length+1)
  omega
theorem pickAv_fit:∀ (ws:List ByteArray) (ns:List Int),(∀ w∈ws,w.size<=12)->(∀ n∈ns,0<=n/\n<=1048576)->∀ a∈pickAv ws ns,a.fit
 | [],_,_,_,a,ha=>by cases ha
 | _::_,[],_,_,a,ha=>by cases ha
 | w::ws,n::ns,h1,h2,a,ha=>by
  rcases aL ha with rfl | ha
  ·exact ah (h1 w (.head _)) (by decide)
  ·rcases aL ha with rfl | ha
   ·have:=h2 n (.head _)
    show -1000000000<=n/\n<=1000000000
    omega
   ·exact pickAv_fit ws ns (fun x hx=>h1 x (.tail _ hx)) (fun x hx=>h2 x (.tail _ hx)) a ha
end Sx
theorem avCells_append (a b:List Sx.Av):avCells (a++b)=avCells a++avCells b:=by simp [avCells]
theorem pfield_3 (nm of_ up:ByteArray) (lo hi:Int) (ws:List ByteArray) (ns:List Int) (us:List Value) (w:World) (h:Mem.rep [] w ((nm,of_,up,3,lo,hi,ws,ns):Fld) us) (hf:Sx.FB ((nm,of_,up,3,lo,hi,ws,ns):Fld)) (he:SEnv w):Calls Tryz.prog 105 #[.agg us.toArray] w (LineP (Sx.fldT ((nm,of_,up,3,lo,hi,ws,ns):Fld)) w):=by
 obtain ⟨A,c,B,d,rfl,s1,s2,a4,a5,a6,a1,a2,a3,b1,b2,e1,e2⟩:=rep_f8 h
 obtain ⟨h1,h2,h3,h4,h5,h6,h7,h8,h9,_⟩:=hf
 replace h1:nm.size<=12:=h1
 replace h2:of_.size<=12:=h2
 replace h3:up.size<=12:=h3
 replace h4:-1048576<=lo/\lo<=1048576:=h4
 replace h5:-1048576<=hi/\hi<=1048576:=h5
 obtain ⟨W1,hW1⟩:=aX (w.alloc (.cells #[.string nm,.string of_,.string up,.int .i64 3,.int .i64 lo,.int .i64 hi,.slice A ws.length c,.slice B ns.length d] 52))
 have hb0:Below w.heap.size w W1:=by rw [<-hW1];exact aP _ _
 have HB:=aI hb0
 have hbk:Blk W1 w.heap.size 52 #[.string nm,.string of_,.string up,.int .i64 3,.int .i64 lo,.int .i64 hi,.slice A ws.length c,.slice B ns.length d]:=by rw [<-hW1];exact Blk.new w _ _
 obtain ⟨c0,c1,c2,c3,c4,c5,c6,c7⟩:=aN8 hbk.cell
 simp at c0 c1 c2 c3 c4 c5 c6 c7
 have he1:=he.below hb0 he.sz
 have cw:=he1.words 3 (by decide)
 have HE:=aI he1
 have HBK:=aI hbk
 obtain ⟨wd,hwd⟩:=aX (wdS 3)
 have hws:wd.size<=1000:=by rw [<-hwd];exact wdS_size 3 (by decide)
 have HWD:=aI (show Sx.bs wd=Sx.wordsL.getD 3 [] by rw [<-hwd];exact wdS_bs 3)
 rw [hwd] at cw
 have HW1:=aI hW1
 show Calls Tryz.prog 105 #[.agg #[.string nm,.string of_,.string up,.int .i64 3,.int .i64 lo,.int .i64 hi,.slice A ws.length c,.slice B ns.length d]] w _
 replace h6:ws.length<=12:=h6
 replace h7:ns.length=ws.length:=h7
 replace h8:∀ s∈ws,s.size<=12:=h8
 replace h9:∀ n∈ns,0<=n/\n<=1048576:=h9
 have s1':SlAt [] W1 A ws:=s1.keep (Chg.of_below hb0)
 have s2':SlAt [] W1 B ns:=s2.keep (Chg.of_below hb0)
 have T0:=aI ((((held0 W1 [] (fun _ h=>by cases h)).add (keeps_sl B ns) s2').add (keeps_sl A ws) s1').add (P:=fun M W=>w.heap.size∉M/\Blk W w.heap.size 52 #[.string nm,.string of_,.string up,.int .i64 3,.int .i64 lo,.int .i64 hi,.slice A ws.length c,.slice B ns.length d]) (keeps_blk _ _ _) ⟨by simp,hbk⟩)
 obtain ⟨n,hn⟩:=aX ws.length
 have HN:=aI hn
 have HN2:=aI (h7.trans hn)
 have HP0:=aI (show ∀ a∈Sx.Av.s nm::Sx.Av.n (n:Int)::Sx.pickAv ws ns,a.fit from fun a ha=>by
  rcases aL ha with rfl | ha
  ·exact (show nm.size<=100 by omega)
  ·rcases aL ha with rfl | ha
   ·exact (show -1000000000<=(n:Int)/\(n:Int)<=1000000000 by omega)
   ·exact Sx.pickAv_fit ws ns h8 h9 a ha)
 have HNL:=aI (show n<=12 by omega)
 show Calls Tryz.prog 105 #[.agg #[.string nm,.string of_,.string up,.int .i64 3,.int .i64 lo,.int .i64 hi,.slice A ws.length c,.slice B ns.length d]] w _
 rw [h7,hn]
 rw [h7,hn] at c7 T0 HW1
 rw [hn] at c6
 obtain ⟨N,hNN⟩:=aX w.heap.size
 rw [hNN] at c0 c1 c2 c3 c4 c5 c6 c7 T0
 obtain ⟨M1,hr1,_⟩:=T0.out.take (aP _ _) (World.ownsRow_lit (base:=W1.heap.size) (size:=1) (e:=20) W1 #[.iface 9 (.string nm),.iface 3 (.int .i64 (n:Int))] 2 (ag _) (by decide) rfl)
 have T:=aI hr1
 have HX:=aI (show HRow W1 [] M1 [] _ 20 1 (.slice (some ⟨W1.heap.size,0,none⟩) 2 2) 2 [.iface 9 (.string nm),.iface 3 (.int .i64 (n:Int))] _ from hr1)
 clear h s1 s2 a1 a2 a3 a4 a5 a6 b1 b2 e1 e2 h1 h2 h3 h4 h5 h6 h7 h8 h9 hbk hW1 hb0 he1 he hwd s1' s2' hn hr1
 go_enter Tryz.func105,Tryz.ntmps105
 go_upto_region 1 with fail
 rw [HW1.out]
 go_upto_region 9 with fail
 clear hNN HX c0 c1 c2 c3 c4 c5 c6 c7 T0
 generalize W1.alloc (.cells #[.iface 9 (.string nm),.iface 3 (.int .i64 (n:Int))] 20)=W2 at *
 have c6:=(T.out.h.fact (.head _)).2.cell 6;have c7:=(T.out.h.fact (.head _)).2.cell 7
 simp at c6 c7
 go_wp2_with fail
 clear c6 c7
 go_loopg [4,51] n (fun r v i wr=>∃ (k:Nat) (M:List Nat),k+r=n/\i=.int .i64 k/\HRow W1 [] M [] [fun M W=>N∉M/\Blk W N 52 #[.string nm,.string of_,.string up,.int .i64 3,.int .i64 lo,.int .i64 hi,.slice A n c,.slice B n d],fun M W=>SlAt M W A ws,fun M W=>SlAt M W B ns] 20 1 v (2+2*k) (avCells (Sx.Av.s nm::Sx.Av.n (n:Int)::Sx.pickAv (ws.take k) (ns.take k))) wr)
 case atStart=>exact ⟨0,_,by omega,rfl,T.out⟩
 case round =>
  obtain ⟨k,M,hk,rfl,hb⟩:=hrel
  obtain ⟨wo,rfl⟩:=aY wr
  replace T:=aI hb
  clear hb
  have hbk:=(T.out.h.fact (.head _)).2
  have c6:=hbk.cell 6;have c7:=hbk.cell 7
  simp at c6 c7
  clear hbk
  have hn12:n<=12:=HNL.out
  by_cases hlt:k < n
  ·have hkp:k < ws.length:=by rw [HN.out];exact hlt
   have hkq:k < ns.length:=by rw [HN2.out];exact hlt
   have k0:(0:Int)<=(k:Int):=Int.natCast_nonneg _
   have k1:(k:Int) < (n:Int):=by omega
   obtain ⟨A4,c4,rfl⟩:=own_form T.out.own
   obtain ⟨b,o,rfl,_,d0,_⟩:=str_at (T.out.h.fact (.tail _ (.head _))) k hkp
   obtain ⟨b2,o2,rfl,_,d1,hI2⟩:=int_at (T.out.h.fact (.tail _ (.tail _ (.head _)))) k hkq
   have HS:=aI (show avCells (Sx.Av.s nm::Sx.Av.n (n:Int)::Sx.pickAv (ws.take k) (ns.take k))++[.iface 9 (.string ws[k]),.iface 3 (.int .i64 ns[k])]=avCells (Sx.Av.s nm::Sx.Av.n (n:Int)::Sx.pickAv (ws.take (k+1)) (ns.take (k+1))) by
    rw [<-Sx.pickAv_snoc ws ns k hkp hkq,<-List.cons_append,<-List.cons_append,avCells_append];rfl)
   generalize ws[k]=x0 at d0 HS
   generalize ns[k]=y0 at d1 HS hI2
   obtain ⟨i0,hI,hz0,hz1,hz2⟩:=info_parts infoAny
   have HII:=aI (show _/\_/\_/\_ from ⟨hI,hz0,hz1,hz2⟩)
   clear hI hz0 hz1 hz2
   go_wp2_with (at_builtin;obtain ⟨hI,hz0,hz1,hz2⟩:=HII.out;refine wpList_append_row (by rfl) _ _ 143 (by rfl) 20 i0 _ 1 16 Tryz.underlying143 hI hz0 hz1 hz2 rfl (by decide) (T.out.below (aP _ _)) (by rfl) _ _ 2 2 [.iface 9 (.string x0),.iface 3 (.int .i64 y0)] (by rfl) (reads_blk (Blk.new _ _ _) rfl) (by simp [Value.oneCell']) (by unfold maxLen;omega) (by omega) ?_;intro v7 w7 M7 h7 _;rw [HS.out] at h7;replace T:=aI h7;clear h7 hI hz0 hz1 hz2)
   go_roundg (gk - 1)
   case measure=>omega
   case rel=>exact ⟨k+1,_,by omega,by go_num,T.out⟩
  ·have k1:¬ (k:Int) < (n:Int):=by omega
   obtain rfl:k=n:=by omega
   rw [List.take_of_length_le (Nat.le_of_eq HN.out),List.take_of_length_le (Nat.le_of_eq HN2.out)] at T
   have hpl:=Sx.pickAv_len ws ns (HN.out.trans HN2.out.symm)
   rw [HN.out] at hpl
   obtain ⟨A4,c4,hv,hc1,hc2,hF⟩:=T.out.freeze (α:=Sx.Av) (l:=Sx.Av.s nm::Sx.Av.n (k:Int)::Sx.pickAv ws ns) rfl (by rw [List.length_cons,List.length_cons,hpl];omega) (flat_avs HP0.out) (fun g hg=>by cases hg)
   subst hv
   have CL:=aI (line_any wd (Sx.Av.s nm::Sx.Av.n (k:Int)::Sx.pickAv ws ns) A4 c4 wo ((hF.fact (.head _)).sub (fun g hg=>by cases hg)) (fun a ha=>(HP0.out a ha).ok) (by rw [List.length_cons,List.length_cons,hpl];omega) hws (HE.out.t.below T.out.h.bl HE.out.t.sz))
   have HBO:=aI (HB.out.trans (T.out.h.bl.mono HB.out.size))
   rw [HWD.out] at CL
   have HT:=aI (show Sx.lineT (Sx.wordsL.getD 3 []::(Sx.Av.s nm::Sx.Av.n (k:Int)::Sx.pickAv ws ns).map Sx.Av.t)=Sx.lineT (Sx.fldT ((nm,of_,up,3,lo,hi,ws,ns):Fld)) by
    show Sx.lineT (_::Sx.bs nm::Sx.num (k:Int)::(Sx.pickAv ws ns).map Sx.Av.t)=Sx.lineT (_::Sx.bs nm::Sx.num (ws.length:Int)::Sx.picksT ws ns)
    rw [Sx.pickAv_t,HN.out])
   rw [HT.out] at CL
   generalize (Sx.Av.s nm::Sx.Av.n (k:Int)::Sx.pickAv ws ns).length=ln at *
   clear hF hc1 hc2 T
   go_wp2_with (go_at_call 104;(with_reducible refine (CL.out).mono ?_);rintro e w2 ⟨rfl,hb2⟩;replace HBO:=aT HBO hb2;clear hb2)
   go_ret
   exact ⟨rfl,HBO.out⟩
theorem pfield_any (f:Fld) (us:List Value) (w:World) (h:Mem.rep [] w f us) (hf:Sx.fldB f=true) (he:SEnv w):Calls Tryz.prog 105 #[.agg us.toArray] w (LineP (Sx.fldT f) w):=by
 have hb:=Sx.fldB_bd hf
 obtain ⟨nm,of_,up,kd,lo,hi,ws,ns⟩:=f
 obtain ⟨k,hk,hkd⟩:=hb.kd
 obtain rfl:kd=(k:Int):=hkd
 rcases (show k=0∨k=1∨k=2∨k=3∨k=4∨k=5∨k=6∨k=7∨k=8 by omega) with rfl | rfl | rfl | rfl | rfl | rfl | rfl | rfl | rfl
 ·exact pfield_0 nm of_ up lo hi ws ns us w h hb he
 ·exact pfield_1 nm of_ up lo hi ws ns us w h hb he
 ·exact pfield_2 nm of_ up lo hi ws ns us w h hb he
 ·exact pfield_3 nm of_ up lo hi ws ns us w h hb he
 ·exact pfield_4 nm of_ up lo hi ws ns us w h hb he
 ·exact pfield_5 nm of_ up lo hi ws ns us w h hb he
 ·exact pfield_6 nm of_ up lo hi ws ns us w h hb he
 ·exact pfield_7 nm of_ up lo hi ws ns us w h hb he
 ·exact pfield_8 nm of_ up lo hi ws ns us w h hb he
namespace Sx
theorem num_len {n:Int} (h:-1000000000<=n/\n<=1000000000):(num n).length<=12:=ah (Dc.itoa_len n (by omega)) (by decide)
theorem bs_len (s:ByteArray):(bs s).length=s.size:=strLen s
theorem orNone_len {s:ByteArray} (h:s.size<=12):(orNone s).length<=12:=by rw [<-orN_list,bs_len];exact orN_sz h (by decide)
theorem words_len (k:Nat):(wordsL.getD k []).length<=12:=by
 rcases Nat.lt_or_ge k 9 with h | h
 ·rcases (show k=0∨k=1∨k=2∨k=3∨k=4∨k=5∨k=6∨k=7∨k=8 by omega) with rfl | rfl | rfl | rfl | rfl | rfl | rfl | rfl | rfl <;> decide
 ·rw [List.getD_eq_getElem?_getD,List.getElem?_eq_none (show wordsL.length<=k from h)];decide
def Short (l:List Txt):Prop:=l.length<=30/\∀ t∈l,t.length<=12
theorem lineT_le:∀ {l:List Txt},(∀ t∈l,t.length<=12)->(lineT l).length<=13*l.length+1
 | [],_=>by simp [lineT]
 | t::l,h=>by
  have h1:=h t (.head _)
  rw [lineT_cons]
  have h2:∀ {l:List Txt},(∀ t∈l,t.length<=12)->(l.flatMap fun u=>32::u).length<=13*l.length:=by
   intro l
   induction l with
   | nil=>intro _;simp
   | cons u l ih =>
    intro h
    have:=ih fun t ht=>h t (.tail _ ht)
    have:=h u (.head _)
    rw [List.flatMap_cons,aK,List.length_cons,List.length_cons]
    omega
  have:=h2 fun t ht=>h t (.tail _ ht)
  simp only [aK,List.length_cons,List.length_nil]
  omega
theorem Short.line {l:List Txt} (h:Short l):(lineT l).length<=391:=by have:=lineT_le h.2;have:=h.1;omega
theorem picks_short:∀ (ws:List ByteArray) (ns:List Int),(∀ w∈ws,w.size<=12)->(∀ n∈ns,0<=n/\n<=1048576)->(picksT ws ns).length<=2*ws.length/\∀ t∈picksT ws ns,t.length<=12
 | [],_,_,_=>⟨ag _,fun t h=>by cases h⟩
 | _::_,[],_,_=>⟨Nat.zero_le _,fun t h=>by cases h⟩
 | w::ws,n::ns,h1,h2=>by
  obtain ⟨a,b⟩:=picks_short ws ns (fun x hx=>h1 x (.tail _ hx)) (fun x hx=>h2 x (.tail _ hx))
  refine ⟨?_,fun t ht=>?_⟩
  ·show (picksT ws ns).length+1+1<=2*(ws.length+1);omega
  ·rcases aL ht with rfl | ht
   ·rw [bs_len];exact h1 w (.head _)
   ·rcases aL ht with rfl | ht
    ·exact num_len (by have:=h2 n (.head _);omega)
    ·exact b t ht
theorem short_of {l:List Txt} (h:l.length<=30) (h2:l.all (fun t=>decide (t.length<=12))=true):Short l:=⟨h,fun t ht=>by simpa using List.all_eq_true.1 h2 t ht⟩
theorem fldT_short {f:Fld} (h:FB f):Short (fldT f):=by
 have h1:decide ((bs (Sc.nm f)).length<=12)=true:=by rw [bs_len];exact ac h.nm
 have h2:decide ((bs (Sc.of_ f)).length<=12)=true:=by rw [bs_len];exact ac h.of_
 have h3:decide ((bs (Sc.up f)).length<=12)=true:=by rw [bs_len];exact ac h.up
 have h4:decide ((num (Sc.lo f)).length<=12)=true:=ac (num_len (by have:=h.lo;omega))
 have h5:decide ((num (Sc.hi f)).length<=12)=true:=ac (num_len (by have:=h.hi;omega))
 have h6:decide ((orNone (Sc.of_ f)).length<=12)=true:=ac (orNone_len h.of_)
 have h7:∀ k,decide ((wordsL.getD k []).length<=12)=true:=fun k=>ac (words_len k)
 unfold fldT
 split
 ·exact short_of (by first | decide | exact Nat.le_of_ble_eq_true rfl) (by simp only [List.all_cons,h1,h4,h7,List.all_nil,Bool.and_self])
 split
 ·exact short_of (by first | decide | exact Nat.le_of_ble_eq_true rfl) (by simp only [List.all_cons,h1,h4,h5,h7,List.all_nil,Bool.and_self])
 split
 ·obtain ⟨a,b⟩:=picks_short _ _ h.w h.n
  have hw:=h.ws
  refine ⟨by simp only [List.length_cons];omega,fun t ht=>?_⟩
  rcases aL ht with rfl | ht
  ·exact words_len _
  rcases aL ht with rfl | ht
  ·simpa using h1
  rcases aL ht with rfl | ht
  ·exact num_len (by omega)
  ·exact b t ht
 split
 ·exact short_of (by first | decide | exact Nat.le_of_ble_eq_true rfl) (by simp only [List.all_cons,h1,h2,h7,List.all_nil,Bool.and_self])
 split
 ·exact short_of (by first | decide | exact Nat.le_of_ble_eq_true rfl) (by simp only [List.all_cons,h1,h2,h3,h4,h5,h7,List.all_nil,Bool.and_self])
 split
 ·exact short_of (by first | decide | exact Nat.le_of_ble_eq_true rfl) (by simp only [List.all_cons,h1,h2,h3,h7,List.all_nil,Bool.and_self])
 ·exact short_of (by first | decide | exact Nat.le_of_ble_eq_true rfl) (by simp only [List.all_cons,h1,h4,h5,h6,h7,List.all_nil,Bool.and_self])
structure KB (k:Knd):Prop where
 nm:k.1.size<=12
 lo:0<=k.2.1/\k.2.1<=65536
 hi:0<=k.2.2.1/\k.2.2.1<=65536
 n:(Sc.flds k).length<=10
 f:∀ f∈Sc.flds k,fldB f=true
theorem kndB_bd {k:Knd} (h:kndB k=true):KB k:=by
 unfold kndB at h
 simp only [Bool.and_eq_true,decide_eq_true_eq,List.all_eq_true] at h
 obtain ⟨a,b,c,d⟩:=h
 have:=span_of b
 exact ⟨(nm_sz a).2,by omega,by omega,c,d⟩
structure LB (x:Lif):Prop where
 nm:x.1.size<=12
 n:1<=x.2.1.length/\x.2.1.length<=12
 s:∀ s∈x.2.1,s.size<=12
 m:x.2.2.length<=32
 v:∀ m∈x.2.2,0<=m.1/\m.1<=11/\0<=m.2/\m.2<=11
theorem lifB_bd {x:Lif} (h:lifB x=true):LB x:=by
 unfold lifB at h
 simp only [Bool.and_eq_true,decide_eq_true_eq,List.all_eq_true] at h
 obtain ⟨a,b,c,d,e⟩:=h
 have hb:=within_of b
 refine ⟨(nm_sz a).2,by omega,fun s hs=>(nm_sz (c s hs)).2,d,fun m hm=>?_⟩
 have h1:=within_of (e m hm).1
 have h2:=within_of (e m hm).2
 omega
structure RB (r:Rul):Prop where
 nm:r.1.size<=12
 k:r.2.1.size<=12
 a:r.2.2.1.size<=12
 b:r.2.2.2.1.size<=12
 n:-1048576<=r.2.2.2.2/\r.2.2.2.2<=1048576
theorem emnm_sz {s:ByteArray} (h:em s=true∨nm s=true):s.size<=12:=by
 rcases h with h | h
 ·have:=em_sz h;omega
 ·exact (nm_sz h).2
theorem rulB_bd {r:Rul} (h:rulB r=true):RB r:=by
 unfold rulB most at h
 simp only [Bool.and_eq_true,Bool.or_eq_true] at h
 obtain ⟨a,b,c,d,_,e⟩:=h
 have:=within_of e
 exact ⟨(nm_sz a).2,(nm_sz b).2,emnm_sz c,emnm_sz d,by omega⟩
structure OB (x:Sch):Prop where
 v:0<=x.1/\x.1<=1048576
 nk:(Sc.kinds x).length<=6
 nl:x.2.2.1.length<=6
 nr:x.2.2.2.length<=16
 k:∀ k∈Sc.kinds x,KB k
 l:∀ l∈x.2.2.1,LB l
 r:∀ r∈x.2.2.2,RB r
theorem okB_bd {x:Sch} (h:okB x=true):OB x:=by
 unfold okB most at h
 simp only [Bool.and_eq_true,decide_eq_true_eq,List.all_eq_true] at h
 obtain ⟨a,b,c,d,e,f,g⟩:=h
 have:=within_of a
 exact ⟨by omega,b,c,d,fun k hk=>kndB_bd (e k hk),fun l hl=>lifB_bd (f l hl),fun r hr=>rulB_bd (g r hr)⟩
theorem flat_le {α β:Type} (f:α->List β) (c:Nat):∀ {l:List α},(∀ a∈l,(f a).length<=c)->(l.flatMap f).length<=l.length*c
 | [],_=>by simp
 | a::l,h=>by
  have h1:=flat_le f c (l:=l) fun x hx=>h x (.tail _ hx)
  have h2:=h a (.head _)
  rw [List.flatMap_cons,aK,List.length_cons,Nat.succ_mul]
  omega
theorem flat_all {α β:Type} {f:α->List β} {P:β->Prop} {l:List α} (h:∀ a∈l,∀ b∈f a,P b):∀ b∈l.flatMap f,P b:=fun b hb=>by
 obtain ⟨a,ha,hb⟩:=List.mem_flatMap.1 hb
 exact h a ha b hb
theorem kndL_short {k:Knd} (h:KB k):(kndL k).length<=11/\∀ l∈kndL k,Short l:=by
 have hn:=h.n
 refine ⟨?_,fun l hl=>?_⟩
 ·show ((Sc.flds k).map fldT).length+1<=11;rw [List.length_map];omega
 ·rcases aL hl with rfl | hl
  ·have h1:decide ((bs k.1).length<=12)=true:=by rw [bs_len];exact ac h.nm
   have h4:decide ((num k.2.1).length<=12)=true:=ac (num_len (by have:=h.lo;omega))
   have h5:decide ((num k.2.2.1).length<=12)=true:=ac (num_len (by have:=h.hi;omega))
   exact short_of (by first | decide | exact Nat.le_of_ble_eq_true rfl) (by simp only [List.all_cons,h1,h4,h5,List.all_nil,Bool.and_self];decide)
  ·obtain ⟨f,hf,rfl⟩:=List.mem_map.1 hl
   exact fldT_short (fldB_bd (h.f f hf))
theorem lifL_short {x:Lif} (h:LB x):(lifL x).length<=33/\∀ l∈lifL x,Short l:=by
 have hm:=h.m
 have hn:=h.n
 refine ⟨?_,fun l hl=>?_⟩
 ·show (x.2.2.map _).length+1<=33;rw [List.length_map];omega
 ·rcases aL hl with rfl | hl
  ·refine ⟨by simp only [List.length_cons,List.length_map];omega,fun t ht=>?_⟩
   rcases aL ht with rfl | ht
   ·decide
   rcases aL ht with rfl | ht
   ·rw [bs_len];exact h.nm
   rcases aL ht with rfl | ht
   ·exact num_len (by omega)
   ·obtain ⟨s,hs,rfl⟩:=List.mem_map.1 ht
    rw [bs_len];exact h.s s hs
  ·obtain ⟨m,hm,rfl⟩:=List.mem_map.1 hl
   have hv:=h.v m hm
   have h4:decide ((num m.1).length<=12)=true:=ac (num_len (by omega))
   have h5:decide ((num m.2).length<=12)=true:=ac (num_len (by omega))
   exact short_of (by first | decide | exact Nat.le_of_ble_eq_true rfl) (by simp only [List.all_cons,h4,h5,List.all_nil,Bool.and_self];decide)
theorem rulL_short {r:Rul} (h:RB r):Short (rulL r):=by
 have h1:decide ((bs r.1).length<=12)=true:=by rw [bs_len];exact ac h.nm
 have h2:decide ((bs r.2.1).length<=12)=true:=by rw [bs_len];exact ac h.k
 have h3:decide ((orNone r.2.2.1).length<=12)=true:=ac (orNone_len h.a)
 have h4:decide ((orNone r.2.2.2.1).length<=12)=true:=ac (orNone_len h.b)
 have h5:decide ((num r.2.2.2.2).length<=12)=true:=ac (num_len (by have:=h.n;omega))
 exact short_of (by first | decide | exact Nat.le_of_ble_eq_true rfl) (by unfold rulL;simp only [List.all_cons,h1,h2,h3,h4,h5,List.all_nil,Bool.and_self];decide)
theorem linesL_short {x:Sch} (h:OB x):(linesL x).length<=300/\∀ l∈linesL x,Short l:=by
 have hk:=flat_le kndL 11 fun k hk=>(kndL_short (h.k k hk)).1
 have hl:=flat_le lifL 33 fun k hk=>(lifL_short (h.l k hk)).1
 have h1:=h.nk;have h2:=h.nl;have h3:=h.nr
 refine ⟨?_,fun l hl=>?_⟩
 ·show (_++(_++_):List (List Txt)).length+1<=300
  rw [aK,aK,List.length_map]
  omega
 ·rcases aL hl with rfl | hl
  ·have h4:decide ((num x.1).length<=12)=true:=ac (num_len (by have:=h.v;omega))
   exact short_of (by first | decide | exact Nat.le_of_ble_eq_true rfl) (by simp only [List.all_cons,h4,List.all_nil,Bool.and_self];decide)
  rcases List.mem_append.1 hl with hl | hl
  ·exact flat_all (fun k hk=>(kndL_short (h.k k hk)).2) l hl
  rcases List.mem_append.1 hl with hl | hl
  ·exact flat_all (fun k hk=>(lifL_short (h.l k hk)).2) l hl
  ·obtain ⟨r,hr,rfl⟩:=List.mem_map.1 hl
   exact rulL_short (h.r r hr)
theorem source_le {x:Sch} (h:OB x):(source x).length<=1000000:=by
 have h1:=linesL_short h
 have h2:=flat_le lineT 391 fun l hl=>(h1.2 l hl).line
 show ((linesL x).flatMap lineT).length<=1000000
 have:=h1.1
 have:(linesL x).length*391<=300*391:=Nat.mul_le_mul_right _ this
 omega
theorem src_step {acc S:Txt} {l:List Txt} {R:List (List Txt)} (h:acc++(l::R).flatMap lineT=S):(acc++lineT l)++R.flatMap lineT=S:=by
 rw [<-h,List.flatMap_cons,List.append_assoc]
theorem src_le {acc S:Txt} {R:List (List Txt)} (h:acc++R.flatMap lineT=S):acc.length<=S.length:=by rw [<-h,aK];omega
end Sx
end
end Go.Proofs.YtmplaikgbeeikaaGreatDoor
