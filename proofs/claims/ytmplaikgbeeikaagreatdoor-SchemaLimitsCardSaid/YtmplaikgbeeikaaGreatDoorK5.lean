/- Parts of the proof, joined: SxL3, SxL4. -/
import Derived.Test.YtmplaikgbeeikaaGreatDoorK4
set_option linter.unusedVariables false
set_option linter.unusedSimpArgs false
set_option linter.unusedSectionVars false
namespace Go.Proofs.YtmplaikgbeeikaaGreatDoor
open Go Go.RowKit
theorem wdS_bs (k:Nat):Sx.bs (wdS k)=Sx.wordsL.getD k []:=by simp [Sx.bs,wdS,Sx.ofT]
theorem wdS_size (k:Nat) (h:k < 9):(wdS k).size≤1000:=by
 match k,h with
 | 0,_ | 1,_ | 2,_ | 3,_ | 4,_ | 5,_ | 6,_ | 7,_ | 8,_=>decide
def LineP (l:List Sx.Txt) (w:World) (e:Ending) (w':World):Prop:=e=.returned (.string ⟨(Sx.lineT l).toArray⟩)∧Below w.heap.size w w'
theorem infoAny:(Tryz.prog.info? 20).map (fun i=>(i.zero,i.size,i.bytes))=some (some .nilIface,1,16):=by kernel_rfl
set_option maxRecDepth 100000 in
set_option maxHeartbeats 8000000 in
theorem pfield_0 (nm of_ up:ByteArray) (lo hi:Int) (ws:List ByteArray) (ns:List Int) (us:List Value) (w:World) (h:Mem.rep [] w ((nm,of_,up,0,lo,hi,ws,ns):Fld) us) (hf:Sx.FB ((nm,of_,up,0,lo,hi,ws,ns):Fld)) (he:SEnv w):Calls Tryz.prog 105 #[.agg us.toArray] w (LineP (Sx.fldT ((nm,of_,up,0,lo,hi,ws,ns):Fld)) w):=by
 obtain ⟨A,c,B,d,rfl,s1,s2,a4,a5,a6,a1,a2,a3,b1,b2,e1,e2⟩:=rep_fld h
 have s1:SlAt [] w A ws:=s1
 have s2:SlAt [] w B ns:=s2
 have b1:ws.length≤c:=b1
 have e1:ns.length≤d:=e1
 obtain ⟨h1,h2,h3,h4,h5,h6,h7,h8,h9,_⟩:=hf
 replace h1:nm.size≤12:=h1
 replace h2:of_.size≤12:=h2
 replace h3:up.size≤12:=h3
 replace h4:-1048576≤lo∧lo≤1048576:=h4
 replace h5:-1048576≤hi∧hi≤1048576:=h5
 obtain ⟨W1,hW1⟩:∃ X,w.alloc (.cells #[.string nm,.string of_,.string up,.int .i64 0,.int .i64 lo,.int .i64 hi,.slice A ws.length c,.slice B ns.length d] 52)=X:=⟨_,rfl⟩
 have hb0:Below w.heap.size w W1:=by rw [← hW1];exact (Below.refl w.heap.size w).alloc (Nat.le_refl _) _
 have HB:=aI hb0
 have hbk:Blk W1 w.heap.size 52 #[.string nm,.string of_,.string up,.int .i64 0,.int .i64 lo,.int .i64 hi,.slice A ws.length c,.slice B ns.length d]:=by rw [← hW1];exact Blk.new w _ _
 have c0:=hbk.cell 0;have c1:=hbk.cell 1;have c2:=hbk.cell 2;have c3:=hbk.cell 3;have c4:=hbk.cell 4;have c5:=hbk.cell 5;have c6:=hbk.cell 6;have c7:=hbk.cell 7
 simp at c0 c1 c2 c3 c4 c5 c6 c7
 have he1:=he.below hb0 he.sz
 have cw:=he1.words 0 (by decide)
 have HE:=aI he1
 have HBK:=aI hbk
 obtain ⟨wd,hwd⟩:∃ s,wdS 0=s:=⟨_,rfl⟩
 have hws:wd.size≤1000:=by rw [← hwd];exact wdS_size 0 (by decide)
 have HWD:=aI (show Sx.bs wd=Sx.wordsL.getD 0 [] by rw [← hwd];exact wdS_bs 0)
 rw [hwd] at cw
 have HW1:=aI hW1
 show Calls Tryz.prog 105 #[.agg #[.string nm,.string of_,.string up,.int .i64 0,.int .i64 lo,.int .i64 hi,.slice A ws.length c,.slice B ns.length d]] w _
 have HF:=aI (show ∀ a∈([.s nm,.n lo]:List Sx.Av),a.fit by
  intro a ha
  simp only [List.mem_cons,List.not_mem_nil,or_false] at ha
  rcases ha with rfl | rfl
  ·exact (show nm.size≤100 by omega)
  ·exact (show -1000000000≤lo∧lo≤1000000000 by omega))
 have CL:=aI (show Calls Tryz.prog 104 #[.string wd,.slice (some ⟨W1.heap.size,0,none⟩) 2 2] (W1.alloc (.cells #[.iface 9 (.string nm),.iface 3 (.int .i64 lo)] 20)) fun e w'=>e=.returned (.string ⟨(Sx.lineT (Sx.bs wd::[.s nm,.n lo].map Sx.Av.t)).toArray⟩)∧Below W1.heap.size W1 w' from line_new wd [.s nm,.n lo] W1 HF.out (Nat.le_of_lt_succ (by simp)) hws HE.out.t)
 rw [HWD.out] at CL
 clear h s1 s2 a1 a2 a3 a4 a5 a6 b1 b2 e1 e2 h1 h2 h3 h4 h5 h6 h7 h8 h9 hbk hW1 hb0 he1 he hwd
 go_enter Tryz.func105,Tryz.ntmps105
 go_upto_region 1 with fail
 rw [HW1.out]
 go_wp2_with (go_at_call 104;((with_reducible refine (CL.out).mono ?_));rintro e w2 ⟨rfl,hb2⟩;replace HB:=aI (HB.out.trans (hb2.mono HB.out.size));clear hb2)
 go_ret
 exact ⟨rfl,HB.out⟩
set_option maxRecDepth 100000 in
set_option maxHeartbeats 8000000 in
theorem pfield_2 (nm of_ up:ByteArray) (lo hi:Int) (ws:List ByteArray) (ns:List Int) (us:List Value) (w:World) (h:Mem.rep [] w ((nm,of_,up,2,lo,hi,ws,ns):Fld) us) (hf:Sx.FB ((nm,of_,up,2,lo,hi,ws,ns):Fld)) (he:SEnv w):Calls Tryz.prog 105 #[.agg us.toArray] w (LineP (Sx.fldT ((nm,of_,up,2,lo,hi,ws,ns):Fld)) w):=by
 obtain ⟨A,c,B,d,rfl,s1,s2,a4,a5,a6,a1,a2,a3,b1,b2,e1,e2⟩:=rep_fld h
 have s1:SlAt [] w A ws:=s1
 have s2:SlAt [] w B ns:=s2
 have b1:ws.length≤c:=b1
 have e1:ns.length≤d:=e1
 obtain ⟨h1,h2,h3,h4,h5,h6,h7,h8,h9,_⟩:=hf
 replace h1:nm.size≤12:=h1
 replace h2:of_.size≤12:=h2
 replace h3:up.size≤12:=h3
 replace h4:-1048576≤lo∧lo≤1048576:=h4
 replace h5:-1048576≤hi∧hi≤1048576:=h5
 obtain ⟨W1,hW1⟩:∃ X,w.alloc (.cells #[.string nm,.string of_,.string up,.int .i64 2,.int .i64 lo,.int .i64 hi,.slice A ws.length c,.slice B ns.length d] 52)=X:=⟨_,rfl⟩
 have hb0:Below w.heap.size w W1:=by rw [← hW1];exact (Below.refl w.heap.size w).alloc (Nat.le_refl _) _
 have HB:=aI hb0
 have hbk:Blk W1 w.heap.size 52 #[.string nm,.string of_,.string up,.int .i64 2,.int .i64 lo,.int .i64 hi,.slice A ws.length c,.slice B ns.length d]:=by rw [← hW1];exact Blk.new w _ _
 have c0:=hbk.cell 0;have c1:=hbk.cell 1;have c2:=hbk.cell 2;have c3:=hbk.cell 3;have c4:=hbk.cell 4;have c5:=hbk.cell 5;have c6:=hbk.cell 6;have c7:=hbk.cell 7
 simp at c0 c1 c2 c3 c4 c5 c6 c7
 have he1:=he.below hb0 he.sz
 have cw:=he1.words 2 (by decide)
 have HE:=aI he1
 have HBK:=aI hbk
 obtain ⟨wd,hwd⟩:∃ s,wdS 2=s:=⟨_,rfl⟩
 have hws:wd.size≤1000:=by rw [← hwd];exact wdS_size 2 (by decide)
 have HWD:=aI (show Sx.bs wd=Sx.wordsL.getD 2 [] by rw [← hwd];exact wdS_bs 2)
 rw [hwd] at cw
 have HW1:=aI hW1
 show Calls Tryz.prog 105 #[.agg #[.string nm,.string of_,.string up,.int .i64 2,.int .i64 lo,.int .i64 hi,.slice A ws.length c,.slice B ns.length d]] w _
 have HF:=aI (show ∀ a∈([.s nm,.n lo,.n hi]:List Sx.Av),a.fit by
  intro a ha
  simp only [List.mem_cons,List.not_mem_nil,or_false] at ha
  rcases ha with rfl | rfl | rfl
  ·exact (show nm.size≤100 by omega)
  ·exact (show -1000000000≤lo∧lo≤1000000000 by omega)
  ·exact (show -1000000000≤hi∧hi≤1000000000 by omega))
 have CL:=aI (show Calls Tryz.prog 104 #[.string wd,.slice (some ⟨W1.heap.size,0,none⟩) 3 3] (W1.alloc (.cells #[.iface 9 (.string nm),.iface 3 (.int .i64 lo),.iface 3 (.int .i64 hi)] 20)) fun e w'=>e=.returned (.string ⟨(Sx.lineT (Sx.bs wd::[.s nm,.n lo,.n hi].map Sx.Av.t)).toArray⟩)∧Below W1.heap.size W1 w' from line_new wd [.s nm,.n lo,.n hi] W1 HF.out (Nat.le_of_lt_succ (by simp)) hws HE.out.t)
 rw [HWD.out] at CL
 clear h s1 s2 a1 a2 a3 a4 a5 a6 b1 b2 e1 e2 h1 h2 h3 h4 h5 h6 h7 h8 h9 hbk hW1 hb0 he1 he hwd
 go_enter Tryz.func105,Tryz.ntmps105
 go_upto_region 1 with fail
 rw [HW1.out]
 go_wp2_with (go_at_call 104;((with_reducible refine (CL.out).mono ?_));rintro e w2 ⟨rfl,hb2⟩;replace HB:=aI (HB.out.trans (hb2.mono HB.out.size));clear hb2)
 go_ret
 exact ⟨rfl,HB.out⟩
set_option maxRecDepth 100000 in
set_option maxHeartbeats 8000000 in
theorem pfield_6 (nm of_ up:ByteArray) (lo hi:Int) (ws:List ByteArray) (ns:List Int) (us:List Value) (w:World) (h:Mem.rep [] w ((nm,of_,up,6,lo,hi,ws,ns):Fld) us) (hf:Sx.FB ((nm,of_,up,6,lo,hi,ws,ns):Fld)) (he:SEnv w):Calls Tryz.prog 105 #[.agg us.toArray] w (LineP (Sx.fldT ((nm,of_,up,6,lo,hi,ws,ns):Fld)) w):=by
 obtain ⟨A,c,B,d,rfl,s1,s2,a4,a5,a6,a1,a2,a3,b1,b2,e1,e2⟩:=rep_fld h
 have s1:SlAt [] w A ws:=s1
 have s2:SlAt [] w B ns:=s2
 have b1:ws.length≤c:=b1
 have e1:ns.length≤d:=e1
 obtain ⟨h1,h2,h3,h4,h5,h6,h7,h8,h9,_⟩:=hf
 replace h1:nm.size≤12:=h1
 replace h2:of_.size≤12:=h2
 replace h3:up.size≤12:=h3
 replace h4:-1048576≤lo∧lo≤1048576:=h4
 replace h5:-1048576≤hi∧hi≤1048576:=h5
 obtain ⟨W1,hW1⟩:∃ X,w.alloc (.cells #[.string nm,.string of_,.string up,.int .i64 6,.int .i64 lo,.int .i64 hi,.slice A ws.length c,.slice B ns.length d] 52)=X:=⟨_,rfl⟩
 have hb0:Below w.heap.size w W1:=by rw [← hW1];exact (Below.refl w.heap.size w).alloc (Nat.le_refl _) _
 have HB:=aI hb0
 have hbk:Blk W1 w.heap.size 52 #[.string nm,.string of_,.string up,.int .i64 6,.int .i64 lo,.int .i64 hi,.slice A ws.length c,.slice B ns.length d]:=by rw [← hW1];exact Blk.new w _ _
 have c0:=hbk.cell 0;have c1:=hbk.cell 1;have c2:=hbk.cell 2;have c3:=hbk.cell 3;have c4:=hbk.cell 4;have c5:=hbk.cell 5;have c6:=hbk.cell 6;have c7:=hbk.cell 7
 simp at c0 c1 c2 c3 c4 c5 c6 c7
 have he1:=he.below hb0 he.sz
 have cw:=he1.words 6 (by decide)
 have HE:=aI he1
 have HBK:=aI hbk
 obtain ⟨wd,hwd⟩:∃ s,wdS 6=s:=⟨_,rfl⟩
 have hws:wd.size≤1000:=by rw [← hwd];exact wdS_size 6 (by decide)
 have HWD:=aI (show Sx.bs wd=Sx.wordsL.getD 6 [] by rw [← hwd];exact wdS_bs 6)
 rw [hwd] at cw
 have HW1:=aI hW1
 show Calls Tryz.prog 105 #[.agg #[.string nm,.string of_,.string up,.int .i64 6,.int .i64 lo,.int .i64 hi,.slice A ws.length c,.slice B ns.length d]] w _
 have HF:=aI (show ∀ a∈([.s nm,.s of_]:List Sx.Av),a.fit by
  intro a ha
  simp only [List.mem_cons,List.not_mem_nil,or_false] at ha
  rcases ha with rfl | rfl
  ·exact (show nm.size≤100 by omega)
  ·exact (show of_.size≤100 by omega))
 have CL:=aI (show Calls Tryz.prog 104 #[.string wd,.slice (some ⟨W1.heap.size,0,none⟩) 2 2] (W1.alloc (.cells #[.iface 9 (.string nm),.iface 9 (.string of_)] 20)) fun e w'=>e=.returned (.string ⟨(Sx.lineT (Sx.bs wd::[.s nm,.s of_].map Sx.Av.t)).toArray⟩)∧Below W1.heap.size W1 w' from line_new wd [.s nm,.s of_] W1 HF.out (Nat.le_of_lt_succ (by simp)) hws HE.out.t)
 rw [HWD.out] at CL
 clear h s1 s2 a1 a2 a3 a4 a5 a6 b1 b2 e1 e2 h1 h2 h3 h4 h5 h6 h7 h8 h9 hbk hW1 hb0 he1 he hwd
 go_enter Tryz.func105,Tryz.ntmps105
 go_upto_region 1 with fail
 rw [HW1.out]
 go_wp2_with (go_at_call 104;((with_reducible refine (CL.out).mono ?_));rintro e w2 ⟨rfl,hb2⟩;replace HB:=aI (HB.out.trans (hb2.mono HB.out.size));clear hb2)
 go_ret
 exact ⟨rfl,HB.out⟩
set_option maxRecDepth 100000 in
set_option maxHeartbeats 8000000 in
theorem pfield_7 (nm of_ up:ByteArray) (lo hi:Int) (ws:List ByteArray) (ns:List Int) (us:List Value) (w:World) (h:Mem.rep [] w ((nm,of_,up,7,lo,hi,ws,ns):Fld) us) (hf:Sx.FB ((nm,of_,up,7,lo,hi,ws,ns):Fld)) (he:SEnv w):Calls Tryz.prog 105 #[.agg us.toArray] w (LineP (Sx.fldT ((nm,of_,up,7,lo,hi,ws,ns):Fld)) w):=by
 obtain ⟨A,c,B,d,rfl,s1,s2,a4,a5,a6,a1,a2,a3,b1,b2,e1,e2⟩:=rep_fld h
 have s1:SlAt [] w A ws:=s1
 have s2:SlAt [] w B ns:=s2
 have b1:ws.length≤c:=b1
 have e1:ns.length≤d:=e1
 obtain ⟨h1,h2,h3,h4,h5,h6,h7,h8,h9,_⟩:=hf
 replace h1:nm.size≤12:=h1
 replace h2:of_.size≤12:=h2
 replace h3:up.size≤12:=h3
 replace h4:-1048576≤lo∧lo≤1048576:=h4
 replace h5:-1048576≤hi∧hi≤1048576:=h5
 obtain ⟨W1,hW1⟩:∃ X,w.alloc (.cells #[.string nm,.string of_,.string up,.int .i64 7,.int .i64 lo,.int .i64 hi,.slice A ws.length c,.slice B ns.length d] 52)=X:=⟨_,rfl⟩
 have hb0:Below w.heap.size w W1:=by rw [← hW1];exact (Below.refl w.heap.size w).alloc (Nat.le_refl _) _
 have HB:=aI hb0
 have hbk:Blk W1 w.heap.size 52 #[.string nm,.string of_,.string up,.int .i64 7,.int .i64 lo,.int .i64 hi,.slice A ws.length c,.slice B ns.length d]:=by rw [← hW1];exact Blk.new w _ _
 have c0:=hbk.cell 0;have c1:=hbk.cell 1;have c2:=hbk.cell 2;have c3:=hbk.cell 3;have c4:=hbk.cell 4;have c5:=hbk.cell 5;have c6:=hbk.cell 6;have c7:=hbk.cell 7
 simp at c0 c1 c2 c3 c4 c5 c6 c7
 have he1:=he.below hb0 he.sz
 have cw:=he1.words 7 (by decide)
 have HE:=aI he1
 have HBK:=aI hbk
 obtain ⟨wd,hwd⟩:∃ s,wdS 7=s:=⟨_,rfl⟩
 have hws:wd.size≤1000:=by rw [← hwd];exact wdS_size 7 (by decide)
 have HWD:=aI (show Sx.bs wd=Sx.wordsL.getD 7 [] by rw [← hwd];exact wdS_bs 7)
 rw [hwd] at cw
 have HW1:=aI hW1
 show Calls Tryz.prog 105 #[.agg #[.string nm,.string of_,.string up,.int .i64 7,.int .i64 lo,.int .i64 hi,.slice A ws.length c,.slice B ns.length d]] w _
 have HF:=aI (show ∀ a∈([.s nm,.s up,.s of_,.n lo,.n hi]:List Sx.Av),a.fit by
  intro a ha
  simp only [List.mem_cons,List.not_mem_nil,or_false] at ha
  rcases ha with rfl | rfl | rfl | rfl | rfl
  ·exact (show nm.size≤100 by omega)
  ·exact (show up.size≤100 by omega)
  ·exact (show of_.size≤100 by omega)
  ·exact (show -1000000000≤lo∧lo≤1000000000 by omega)
  ·exact (show -1000000000≤hi∧hi≤1000000000 by omega))
 have CL:=aI (show Calls Tryz.prog 104 #[.string wd,.slice (some ⟨W1.heap.size,0,none⟩) 5 5] (W1.alloc (.cells #[.iface 9 (.string nm),.iface 9 (.string up),.iface 9 (.string of_),.iface 3 (.int .i64 lo),.iface 3 (.int .i64 hi)] 20)) fun e w'=>e=.returned (.string ⟨(Sx.lineT (Sx.bs wd::[.s nm,.s up,.s of_,.n lo,.n hi].map Sx.Av.t)).toArray⟩)∧Below W1.heap.size W1 w' from line_new wd [.s nm,.s up,.s of_,.n lo,.n hi] W1 HF.out (Nat.le_of_lt_succ (by simp)) hws HE.out.t)
 rw [HWD.out] at CL
 clear h s1 s2 a1 a2 a3 a4 a5 a6 b1 b2 e1 e2 h1 h2 h3 h4 h5 h6 h7 h8 h9 hbk hW1 hb0 he1 he hwd
 go_enter Tryz.func105,Tryz.ntmps105
 go_upto_region 1 with fail
 rw [HW1.out]
 go_wp2_with (go_at_call 104;((with_reducible refine (CL.out).mono ?_));rintro e w2 ⟨rfl,hb2⟩;replace HB:=aI (HB.out.trans (hb2.mono HB.out.size));clear hb2)
 go_ret
 exact ⟨rfl,HB.out⟩
set_option maxRecDepth 100000 in
set_option maxHeartbeats 8000000 in
theorem pfield_8 (nm of_ up:ByteArray) (lo hi:Int) (ws:List ByteArray) (ns:List Int) (us:List Value) (w:World) (h:Mem.rep [] w ((nm,of_,up,8,lo,hi,ws,ns):Fld) us) (hf:Sx.FB ((nm,of_,up,8,lo,hi,ws,ns):Fld)) (he:SEnv w):Calls Tryz.prog 105 #[.agg us.toArray] w (LineP (Sx.fldT ((nm,of_,up,8,lo,hi,ws,ns):Fld)) w):=by
 obtain ⟨A,c,B,d,rfl,s1,s2,a4,a5,a6,a1,a2,a3,b1,b2,e1,e2⟩:=rep_fld h
 have s1:SlAt [] w A ws:=s1
 have s2:SlAt [] w B ns:=s2
 have b1:ws.length≤c:=b1
 have e1:ns.length≤d:=e1
 obtain ⟨h1,h2,h3,h4,h5,h6,h7,h8,h9,_⟩:=hf
 replace h1:nm.size≤12:=h1
 replace h2:of_.size≤12:=h2
 replace h3:up.size≤12:=h3
 replace h4:-1048576≤lo∧lo≤1048576:=h4
 replace h5:-1048576≤hi∧hi≤1048576:=h5
 obtain ⟨W1,hW1⟩:∃ X,w.alloc (.cells #[.string nm,.string of_,.string up,.int .i64 8,.int .i64 lo,.int .i64 hi,.slice A ws.length c,.slice B ns.length d] 52)=X:=⟨_,rfl⟩
 have hb0:Below w.heap.size w W1:=by rw [← hW1];exact (Below.refl w.heap.size w).alloc (Nat.le_refl _) _
 have HB:=aI hb0
 have hbk:Blk W1 w.heap.size 52 #[.string nm,.string of_,.string up,.int .i64 8,.int .i64 lo,.int .i64 hi,.slice A ws.length c,.slice B ns.length d]:=by rw [← hW1];exact Blk.new w _ _
 have c0:=hbk.cell 0;have c1:=hbk.cell 1;have c2:=hbk.cell 2;have c3:=hbk.cell 3;have c4:=hbk.cell 4;have c5:=hbk.cell 5;have c6:=hbk.cell 6;have c7:=hbk.cell 7
 simp at c0 c1 c2 c3 c4 c5 c6 c7
 have he1:=he.below hb0 he.sz
 have cw:=he1.words 8 (by decide)
 have HE:=aI he1
 have HBK:=aI hbk
 obtain ⟨wd,hwd⟩:∃ s,wdS 8=s:=⟨_,rfl⟩
 have hws:wd.size≤1000:=by rw [← hwd];exact wdS_size 8 (by decide)
 have HWD:=aI (show Sx.bs wd=Sx.wordsL.getD 8 [] by rw [← hwd];exact wdS_bs 8)
 rw [hwd] at cw
 have HW1:=aI hW1
 show Calls Tryz.prog 105 #[.agg #[.string nm,.string of_,.string up,.int .i64 8,.int .i64 lo,.int .i64 hi,.slice A ws.length c,.slice B ns.length d]] w _
 have HF:=aI (show ∀ a∈([.s nm,.s up,.s of_]:List Sx.Av),a.fit by
  intro a ha
  simp only [List.mem_cons,List.not_mem_nil,or_false] at ha
  rcases ha with rfl | rfl | rfl
  ·exact (show nm.size≤100 by omega)
  ·exact (show up.size≤100 by omega)
  ·exact (show of_.size≤100 by omega))
 have CL:=aI (show Calls Tryz.prog 104 #[.string wd,.slice (some ⟨W1.heap.size,0,none⟩) 3 3] (W1.alloc (.cells #[.iface 9 (.string nm),.iface 9 (.string up),.iface 9 (.string of_)] 20)) fun e w'=>e=.returned (.string ⟨(Sx.lineT (Sx.bs wd::[.s nm,.s up,.s of_].map Sx.Av.t)).toArray⟩)∧Below W1.heap.size W1 w' from line_new wd [.s nm,.s up,.s of_] W1 HF.out (Nat.le_of_lt_succ (by simp)) hws HE.out.t)
 rw [HWD.out] at CL
 clear h s1 s2 a1 a2 a3 a4 a5 a6 b1 b2 e1 e2 h1 h2 h3 h4 h5 h6 h7 h8 h9 hbk hW1 hb0 he1 he hwd
 go_enter Tryz.func105,Tryz.ntmps105
 go_upto_region 1 with fail
 rw [HW1.out]
 go_wp2_with (go_at_call 104;((with_reducible refine (CL.out).mono ?_));rintro e w2 ⟨rfl,hb2⟩;replace HB:=aI (HB.out.trans (hb2.mono HB.out.size));clear hb2)
 go_ret
 exact ⟨rfl,HB.out⟩
set_option maxRecDepth 100000 in
set_option maxHeartbeats 8000000 in
theorem pfield_1 (nm of_ up:ByteArray) (lo hi:Int) (ws:List ByteArray) (ns:List Int) (us:List Value) (w:World) (h:Mem.rep [] w ((nm,of_,up,1,lo,hi,ws,ns):Fld) us) (hf:Sx.FB ((nm,of_,up,1,lo,hi,ws,ns):Fld)) (he:SEnv w):Calls Tryz.prog 105 #[.agg us.toArray] w (LineP (Sx.fldT ((nm,of_,up,1,lo,hi,ws,ns):Fld)) w):=by
 obtain ⟨A,c,B,d,rfl,s1,s2,a4,a5,a6,a1,a2,a3,b1,b2,e1,e2⟩:=rep_fld h
 have s1:SlAt [] w A ws:=s1
 have s2:SlAt [] w B ns:=s2
 have b1:ws.length≤c:=b1
 have e1:ns.length≤d:=e1
 obtain ⟨h1,h2,h3,h4,h5,h6,h7,h8,h9,_⟩:=hf
 replace h1:nm.size≤12:=h1
 replace h2:of_.size≤12:=h2
 replace h3:up.size≤12:=h3
 replace h4:-1048576≤lo∧lo≤1048576:=h4
 replace h5:-1048576≤hi∧hi≤1048576:=h5
 obtain ⟨W1,hW1⟩:∃ X,w.alloc (.cells #[.string nm,.string of_,.string up,.int .i64 1,.int .i64 lo,.int .i64 hi,.slice A ws.length c,.slice B ns.length d] 52)=X:=⟨_,rfl⟩
 have hb0:Below w.heap.size w W1:=by rw [← hW1];exact (Below.refl w.heap.size w).alloc (Nat.le_refl _) _
 have HB:=aI hb0
 have hbk:Blk W1 w.heap.size 52 #[.string nm,.string of_,.string up,.int .i64 1,.int .i64 lo,.int .i64 hi,.slice A ws.length c,.slice B ns.length d]:=by rw [← hW1];exact Blk.new w _ _
 have c0:=hbk.cell 0;have c1:=hbk.cell 1;have c2:=hbk.cell 2;have c3:=hbk.cell 3;have c4:=hbk.cell 4;have c5:=hbk.cell 5;have c6:=hbk.cell 6;have c7:=hbk.cell 7
 simp at c0 c1 c2 c3 c4 c5 c6 c7
 have he1:=he.below hb0 he.sz
 have cw:=he1.words 1 (by decide)
 have HE:=aI he1
 have HBK:=aI hbk
 obtain ⟨wd,hwd⟩:∃ s,wdS 1=s:=⟨_,rfl⟩
 have hws:wd.size≤1000:=by rw [← hwd];exact wdS_size 1 (by decide)
 have HWD:=aI (show Sx.bs wd=Sx.wordsL.getD 1 [] by rw [← hwd];exact wdS_bs 1)
 rw [hwd] at cw
 have HW1:=aI hW1
 show Calls Tryz.prog 105 #[.agg #[.string nm,.string of_,.string up,.int .i64 1,.int .i64 lo,.int .i64 hi,.slice A ws.length c,.slice B ns.length d]] w _
 have HF:=aI (show ∀ a∈([.s nm,.s (Sx.orN of_),.n lo,.n hi]:List Sx.Av),a.fit by
  intro a ha
  simp only [List.mem_cons,List.not_mem_nil,or_false] at ha
  rcases ha with rfl | rfl | rfl | rfl
  ·exact (show nm.size≤100 by omega)
  ·exact (show (Sx.orN of_).size≤100 from Sx.orN_sz (by omega) (by decide))
  ·exact (show -1000000000≤lo∧lo≤1000000000 by omega)
  ·exact (show -1000000000≤hi∧hi≤1000000000 by omega))
 have CN:=aI (fun w=>named_any of_ w)
 have CL:=aI (fun (g:Nat) (W:World) (hB:Blk W g 20 #[.iface 9 (.string nm),.iface 9 (.string (Sx.orN of_)),.iface 3 (.int .i64 lo),.iface 3 (.int .i64 hi)]) (hb:Below W1.heap.size W1 W)=>show Calls Tryz.prog 104 #[.string wd,.slice (some ⟨g,0,none⟩) 4 4] W fun e w'=>e=.returned (.string ⟨(Sx.lineT (Sx.bs wd::[.s nm,.s (Sx.orN of_),.n lo,.n hi].map Sx.Av.t)).toArray⟩)∧Below W.heap.size W w' from line_any wd [.s nm,.s (Sx.orN of_),.n lo,.n hi] (some ⟨g,0,none⟩) 4 W (SlAt.of_blk (flat_avs HF.out) (show Blk W g 20 (avCells [.s nm,.s (Sx.orN of_),.n lo,.n hi]).toArray from hB) (by simp)) (fun a ha=>(HF.out a ha).ok) (Nat.le_of_lt_succ (by simp)) hws (HE.out.t.below hb HE.out.t.sz))
 rw [HWD.out] at CL
 have HC:=aI (fun (W':World) (hb:Below W1.heap.size W1 W')=>hb.block w.heap.size hbk.lt)
 clear h s1 s2 a1 a2 a3 a4 a5 a6 b1 b2 e1 e2 h1 h2 h3 h4 h5 h6 h7 h8 h9 hbk hW1 hb0 he1 he hwd
 go_enter Tryz.func105,Tryz.ntmps105
 go_upto_region 1 with fail
 rw [HW1.out]
 go_wp2_with fail
 clear c0 c1 c2 c3 c4 c5 c6 c7
 apply wp_region_typed (C:=fun w'=>Below W1.heap.size W1 w') (n:=132) (m:=17) (l1:=[_,_,_,_,_,_,_,_,_,_,_,_,_,_,_,_,_]) (l2:=[])
 ·rfl
 ·rfl
 ·kernel_rfl
 ·rfl
 ·kernel_rfl
 ·exact ⟨rfl,rfl,rfl,Nat.le_refl _,fun _ _=>rfl⟩
 ·exact fun u u' h hb=>(by first | exact h.below hb | exact h.trans (hb.mono h.size))
 (apply wpT_exact;· (intro w' hC hf;unfold Gives;clear hf hC;go_wp2_with (fail);apply postT_val rfl (Below.refl _ _);simp only [valAt,aA,aE,aC,aD,aH];exact rfl));(try simp only [Act.put,aB,aF,aG])
 iterate 5 ((apply wpT_exact;· (intro w' hC hf;unfold Gives;have hbk:=HBK.out.below hC HBK.out.lt;have c0:=hbk.cell 0;have c1:=hbk.cell 1;have c4:=hbk.cell 4;have c5:=hbk.cell 5;simp at c0 c1 c4 c5;clear hbk;clear hf hC;go_wp2_with (fail);apply postT_val rfl (Below.refl _ _);simp only [valAt,aA,aE,aC,aD,aH];exact rfl));(try simp only [Act.put,aB,aF,aG]))
 (apply wpT_exact;· (intro w' hC hf;unfold Gives;clear hf hC;go_wp2_with (go_at_call 106;((with_reducible refine (CN.out _).mono ?_));rintro e w2 ⟨rfl,hb2⟩);apply postT_val rfl (by assumption);simp only [valAt,aA,aE,aC,aD,aH];exact rfl));(try simp only [Act.put,aB,aF,aG])
 iterate 7 ((apply wpT_exact;· (intro w' hC hf;unfold Gives;have hbk:=HBK.out.below hC HBK.out.lt;have c0:=hbk.cell 0;have c1:=hbk.cell 1;have c4:=hbk.cell 4;have c5:=hbk.cell 5;simp at c0 c1 c4 c5;clear hbk;clear hf hC;go_wp2_with (fail);apply postT_val rfl (Below.refl _ _);simp only [valAt,aA,aE,aC,aD,aH];exact rfl));(try simp only [Act.put,aB,aF,aG]))
 apply wpT_typed (slBlk_kept 4 20 #[.iface 9 (.string nm),.iface 9 (.string (Sx.orN of_)),.iface 3 (.int .i64 lo),.iface 3 (.int .i64 hi)])
 ·intro w' hC hf;unfold Gives;clear hf hC;go_wp2_with fail;apply postT_mk rfl (by go_grown);simp only [valAt,aA,aE,aC,aD,aH];exact ⟨_,rfl,Blk.new _ _ _⟩
 intro vsl;(try simp only [Act.put,aB,aF,aG])
 (apply wpT_exact;· (intro w' hC hf;unfold Gives;obtain ⟨g,rfl,hB⟩:=hf.1 rfl;have CQ:=aI (CL.out g w' hB hC);clear hf hC hB;go_wp2_with (go_at_call 104;((with_reducible refine (CQ.out).mono ?_));rintro e w2 ⟨rfl,hb2⟩);apply postT_val rfl (by assumption);simp only [valAt,aA,aE,aC,aD,aH];exact rfl));(try simp only [Act.put,aB,aF,aG])
 (apply wpT_exact;· (intro w' hC hf;unfold Gives;clear hf hC;go_wp2_with (fail);apply postT_val rfl (Below.refl _ _);simp only [valAt,aA,aE,aC,aD,aH];exact rfl));(try simp only [Act.put,aB,aF,aG])
 apply wpT_done
 intro w4 hC _
 replace HB:=aI (HB.out.trans (hC.mono HB.out.size))
 clear hC
 go_wp2_with fail
 go_ret
 exact ⟨by rw [show Sx.lineT (Sx.fldT ((nm,of_,up,1,lo,hi,ws,ns):Fld))=Sx.lineT (Sx.wordsL.getD 1 []::[.s nm,.s (Sx.orN of_),.n lo,.n hi].map Sx.Av.t) by show _=Sx.lineT [_,_,Sx.bs (Sx.orN of_),_,_];rw [Sx.orN_list];rfl];rfl,HB.out⟩
set_option maxRecDepth 100000 in
set_option maxHeartbeats 8000000 in
theorem pfield_4 (nm of_ up:ByteArray) (lo hi:Int) (ws:List ByteArray) (ns:List Int) (us:List Value) (w:World) (h:Mem.rep [] w ((nm,of_,up,4,lo,hi,ws,ns):Fld) us) (hf:Sx.FB ((nm,of_,up,4,lo,hi,ws,ns):Fld)) (he:SEnv w):Calls Tryz.prog 105 #[.agg us.toArray] w (LineP (Sx.fldT ((nm,of_,up,4,lo,hi,ws,ns):Fld)) w):=by
 obtain ⟨A,c,B,d,rfl,s1,s2,a4,a5,a6,a1,a2,a3,b1,b2,e1,e2⟩:=rep_fld h
 have s1:SlAt [] w A ws:=s1
 have s2:SlAt [] w B ns:=s2
 have b1:ws.length≤c:=b1
 have e1:ns.length≤d:=e1
 obtain ⟨h1,h2,h3,h4,h5,h6,h7,h8,h9,_⟩:=hf
 replace h1:nm.size≤12:=h1
 replace h2:of_.size≤12:=h2
 replace h3:up.size≤12:=h3
 replace h4:-1048576≤lo∧lo≤1048576:=h4
 replace h5:-1048576≤hi∧hi≤1048576:=h5
 obtain ⟨W1,hW1⟩:∃ X,w.alloc (.cells #[.string nm,.string of_,.string up,.int .i64 4,.int .i64 lo,.int .i64 hi,.slice A ws.length c,.slice B ns.length d] 52)=X:=⟨_,rfl⟩
 have hb0:Below w.heap.size w W1:=by rw [← hW1];exact (Below.refl w.heap.size w).alloc (Nat.le_refl _) _
 have HB:=aI hb0
 have hbk:Blk W1 w.heap.size 52 #[.string nm,.string of_,.string up,.int .i64 4,.int .i64 lo,.int .i64 hi,.slice A ws.length c,.slice B ns.length d]:=by rw [← hW1];exact Blk.new w _ _
 have c0:=hbk.cell 0;have c1:=hbk.cell 1;have c2:=hbk.cell 2;have c3:=hbk.cell 3;have c4:=hbk.cell 4;have c5:=hbk.cell 5;have c6:=hbk.cell 6;have c7:=hbk.cell 7
 simp at c0 c1 c2 c3 c4 c5 c6 c7
 have he1:=he.below hb0 he.sz
 have cw:=he1.words 4 (by decide)
 have HE:=aI he1
 have HBK:=aI hbk
 obtain ⟨wd,hwd⟩:∃ s,wdS 4=s:=⟨_,rfl⟩
 have hws:wd.size≤1000:=by rw [← hwd];exact wdS_size 4 (by decide)
 have HWD:=aI (show Sx.bs wd=Sx.wordsL.getD 4 [] by rw [← hwd];exact wdS_bs 4)
 rw [hwd] at cw
 have HW1:=aI hW1
 show Calls Tryz.prog 105 #[.agg #[.string nm,.string of_,.string up,.int .i64 4,.int .i64 lo,.int .i64 hi,.slice A ws.length c,.slice B ns.length d]] w _
 have HF:=aI (show ∀ a∈([.s nm,.s (Sx.orN of_),.n lo,.n hi]:List Sx.Av),a.fit by
  intro a ha
  simp only [List.mem_cons,List.not_mem_nil,or_false] at ha
  rcases ha with rfl | rfl | rfl | rfl
  ·exact (show nm.size≤100 by omega)
  ·exact (show (Sx.orN of_).size≤100 from Sx.orN_sz (by omega) (by decide))
  ·exact (show -1000000000≤lo∧lo≤1000000000 by omega)
  ·exact (show -1000000000≤hi∧hi≤1000000000 by omega))
 have CN:=aI (fun w=>named_any of_ w)
 have CL:=aI (fun (g:Nat) (W:World) (hB:Blk W g 20 #[.iface 9 (.string nm),.iface 9 (.string (Sx.orN of_)),.iface 3 (.int .i64 lo),.iface 3 (.int .i64 hi)]) (hb:Below W1.heap.size W1 W)=>show Calls Tryz.prog 104 #[.string wd,.slice (some ⟨g,0,none⟩) 4 4] W fun e w'=>e=.returned (.string ⟨(Sx.lineT (Sx.bs wd::[.s nm,.s (Sx.orN of_),.n lo,.n hi].map Sx.Av.t)).toArray⟩)∧Below W.heap.size W w' from line_any wd [.s nm,.s (Sx.orN of_),.n lo,.n hi] (some ⟨g,0,none⟩) 4 W (SlAt.of_blk (flat_avs HF.out) (show Blk W g 20 (avCells [.s nm,.s (Sx.orN of_),.n lo,.n hi]).toArray from hB) (by simp)) (fun a ha=>(HF.out a ha).ok) (Nat.le_of_lt_succ (by simp)) hws (HE.out.t.below hb HE.out.t.sz))
 rw [HWD.out] at CL
 have HC:=aI (fun (W':World) (hb:Below W1.heap.size W1 W')=>hb.block w.heap.size hbk.lt)
 clear h s1 s2 a1 a2 a3 a4 a5 a6 b1 b2 e1 e2 h1 h2 h3 h4 h5 h6 h7 h8 h9 hbk hW1 hb0 he1 he hwd
 go_enter Tryz.func105,Tryz.ntmps105
 go_upto_region 1 with fail
 rw [HW1.out]
 go_wp2_with fail
 clear c0 c1 c2 c3 c4 c5 c6 c7
 apply wp_region_typed (C:=fun w'=>Below W1.heap.size W1 w') (n:=132) (m:=17) (l1:=[_,_,_,_,_,_,_,_,_,_,_,_,_,_,_,_,_]) (l2:=[])
 ·rfl
 ·rfl
 ·kernel_rfl
 ·rfl
 ·kernel_rfl
 ·exact ⟨rfl,rfl,rfl,Nat.le_refl _,fun _ _=>rfl⟩
 ·exact fun u u' h hb=>(by first | exact h.below hb | exact h.trans (hb.mono h.size))
 (apply wpT_exact;· (intro w' hC hf;unfold Gives;clear hf hC;go_wp2_with (fail);apply postT_val rfl (Below.refl _ _);simp only [valAt,aA,aE,aC,aD,aH];exact rfl));(try simp only [Act.put,aB,aF,aG])
 iterate 5 ((apply wpT_exact;· (intro w' hC hf;unfold Gives;have hbk:=HBK.out.below hC HBK.out.lt;have c0:=hbk.cell 0;have c1:=hbk.cell 1;have c4:=hbk.cell 4;have c5:=hbk.cell 5;simp at c0 c1 c4 c5;clear hbk;clear hf hC;go_wp2_with (fail);apply postT_val rfl (Below.refl _ _);simp only [valAt,aA,aE,aC,aD,aH];exact rfl));(try simp only [Act.put,aB,aF,aG]))
 (apply wpT_exact;· (intro w' hC hf;unfold Gives;clear hf hC;go_wp2_with (go_at_call 106;((with_reducible refine (CN.out _).mono ?_));rintro e w2 ⟨rfl,hb2⟩);apply postT_val rfl (by assumption);simp only [valAt,aA,aE,aC,aD,aH];exact rfl));(try simp only [Act.put,aB,aF,aG])
 iterate 7 ((apply wpT_exact;· (intro w' hC hf;unfold Gives;have hbk:=HBK.out.below hC HBK.out.lt;have c0:=hbk.cell 0;have c1:=hbk.cell 1;have c4:=hbk.cell 4;have c5:=hbk.cell 5;simp at c0 c1 c4 c5;clear hbk;clear hf hC;go_wp2_with (fail);apply postT_val rfl (Below.refl _ _);simp only [valAt,aA,aE,aC,aD,aH];exact rfl));(try simp only [Act.put,aB,aF,aG]))
 apply wpT_typed (slBlk_kept 4 20 #[.iface 9 (.string nm),.iface 9 (.string (Sx.orN of_)),.iface 3 (.int .i64 lo),.iface 3 (.int .i64 hi)])
 ·intro w' hC hf;unfold Gives;clear hf hC;go_wp2_with fail;apply postT_mk rfl (by go_grown);simp only [valAt,aA,aE,aC,aD,aH];exact ⟨_,rfl,Blk.new _ _ _⟩
 intro vsl;(try simp only [Act.put,aB,aF,aG])
 (apply wpT_exact;· (intro w' hC hf;unfold Gives;obtain ⟨g,rfl,hB⟩:=hf.1 rfl;have CQ:=aI (CL.out g w' hB hC);clear hf hC hB;go_wp2_with (go_at_call 104;((with_reducible refine (CQ.out).mono ?_));rintro e w2 ⟨rfl,hb2⟩);apply postT_val rfl (by assumption);simp only [valAt,aA,aE,aC,aD,aH];exact rfl));(try simp only [Act.put,aB,aF,aG])
 (apply wpT_exact;· (intro w' hC hf;unfold Gives;clear hf hC;go_wp2_with (fail);apply postT_val rfl (Below.refl _ _);simp only [valAt,aA,aE,aC,aD,aH];exact rfl));(try simp only [Act.put,aB,aF,aG])
 apply wpT_done
 intro w4 hC _
 replace HB:=aI (HB.out.trans (hC.mono HB.out.size))
 clear hC
 go_wp2_with fail
 go_ret
 exact ⟨by rw [show Sx.lineT (Sx.fldT ((nm,of_,up,4,lo,hi,ws,ns):Fld))=Sx.lineT (Sx.wordsL.getD 4 []::[.s nm,.s (Sx.orN of_),.n lo,.n hi].map Sx.Av.t) by show _=Sx.lineT [_,_,Sx.bs (Sx.orN of_),_,_];rw [Sx.orN_list];rfl];rfl,HB.out⟩
set_option maxRecDepth 100000 in
set_option maxHeartbeats 8000000 in
theorem pfield_5 (nm of_ up:ByteArray) (lo hi:Int) (ws:List ByteArray) (ns:List Int) (us:List Value) (w:World) (h:Mem.rep [] w ((nm,of_,up,5,lo,hi,ws,ns):Fld) us) (hf:Sx.FB ((nm,of_,up,5,lo,hi,ws,ns):Fld)) (he:SEnv w):Calls Tryz.prog 105 #[.agg us.toArray] w (LineP (Sx.fldT ((nm,of_,up,5,lo,hi,ws,ns):Fld)) w):=by
 obtain ⟨A,c,B,d,rfl,s1,s2,a4,a5,a6,a1,a2,a3,b1,b2,e1,e2⟩:=rep_fld h
 have s1:SlAt [] w A ws:=s1
 have s2:SlAt [] w B ns:=s2
 have b1:ws.length≤c:=b1
 have e1:ns.length≤d:=e1
 obtain ⟨h1,h2,h3,h4,h5,h6,h7,h8,h9,_⟩:=hf
 replace h1:nm.size≤12:=h1
 replace h2:of_.size≤12:=h2
 replace h3:up.size≤12:=h3
 replace h4:-1048576≤lo∧lo≤1048576:=h4
 replace h5:-1048576≤hi∧hi≤1048576:=h5
 obtain ⟨W1,hW1⟩:∃ X,w.alloc (.cells #[.string nm,.string of_,.string up,.int .i64 5,.int .i64 lo,.int .i64 hi,.slice A ws.length c,.slice B ns.length d] 52)=X:=⟨_,rfl⟩
 have hb0:Below w.heap.size w W1:=by rw [← hW1];exact (Below.refl w.heap.size w).alloc (Nat.le_refl _) _
 have HB:=aI hb0
 have hbk:Blk W1 w.heap.size 52 #[.string nm,.string of_,.string up,.int .i64 5,.int .i64 lo,.int .i64 hi,.slice A ws.length c,.slice B ns.length d]:=by rw [← hW1];exact Blk.new w _ _
 have c0:=hbk.cell 0;have c1:=hbk.cell 1;have c2:=hbk.cell 2;have c3:=hbk.cell 3;have c4:=hbk.cell 4;have c5:=hbk.cell 5;have c6:=hbk.cell 6;have c7:=hbk.cell 7
 simp at c0 c1 c2 c3 c4 c5 c6 c7
 have he1:=he.below hb0 he.sz
 have cw:=he1.words 5 (by decide)
 have HE:=aI he1
 have HBK:=aI hbk
 obtain ⟨wd,hwd⟩:∃ s,wdS 5=s:=⟨_,rfl⟩
 have hws:wd.size≤1000:=by rw [← hwd];exact wdS_size 5 (by decide)
 have HWD:=aI (show Sx.bs wd=Sx.wordsL.getD 5 [] by rw [← hwd];exact wdS_bs 5)
 rw [hwd] at cw
 have HW1:=aI hW1
 show Calls Tryz.prog 105 #[.agg #[.string nm,.string of_,.string up,.int .i64 5,.int .i64 lo,.int .i64 hi,.slice A ws.length c,.slice B ns.length d]] w _
 have HF:=aI (show ∀ a∈([.s nm,.s (Sx.orN of_),.n lo,.n hi]:List Sx.Av),a.fit by
  intro a ha
  simp only [List.mem_cons,List.not_mem_nil,or_false] at ha
  rcases ha with rfl | rfl | rfl | rfl
  ·exact (show nm.size≤100 by omega)
  ·exact (show (Sx.orN of_).size≤100 from Sx.orN_sz (by omega) (by decide))
  ·exact (show -1000000000≤lo∧lo≤1000000000 by omega)
  ·exact (show -1000000000≤hi∧hi≤1000000000 by omega))
 have CN:=aI (fun w=>named_any of_ w)
 have CL:=aI (fun (g:Nat) (W:World) (hB:Blk W g 20 #[.iface 9 (.string nm),.iface 9 (.string (Sx.orN of_)),.iface 3 (.int .i64 lo),.iface 3 (.int .i64 hi)]) (hb:Below W1.heap.size W1 W)=>show Calls Tryz.prog 104 #[.string wd,.slice (some ⟨g,0,none⟩) 4 4] W fun e w'=>e=.returned (.string ⟨(Sx.lineT (Sx.bs wd::[.s nm,.s (Sx.orN of_),.n lo,.n hi].map Sx.Av.t)).toArray⟩)∧Below W.heap.size W w' from line_any wd [.s nm,.s (Sx.orN of_),.n lo,.n hi] (some ⟨g,0,none⟩) 4 W (SlAt.of_blk (flat_avs HF.out) (show Blk W g 20 (avCells [.s nm,.s (Sx.orN of_),.n lo,.n hi]).toArray from hB) (by simp)) (fun a ha=>(HF.out a ha).ok) (Nat.le_of_lt_succ (by simp)) hws (HE.out.t.below hb HE.out.t.sz))
 rw [HWD.out] at CL
 have HC:=aI (fun (W':World) (hb:Below W1.heap.size W1 W')=>hb.block w.heap.size hbk.lt)
 clear h s1 s2 a1 a2 a3 a4 a5 a6 b1 b2 e1 e2 h1 h2 h3 h4 h5 h6 h7 h8 h9 hbk hW1 hb0 he1 he hwd
 go_enter Tryz.func105,Tryz.ntmps105
 go_upto_region 1 with fail
 rw [HW1.out]
 go_wp2_with fail
 clear c0 c1 c2 c3 c4 c5 c6 c7
 apply wp_region_typed (C:=fun w'=>Below W1.heap.size W1 w') (n:=132) (m:=17) (l1:=[_,_,_,_,_,_,_,_,_,_,_,_,_,_,_,_,_]) (l2:=[])
 ·rfl
 ·rfl
 ·kernel_rfl
 ·rfl
 ·kernel_rfl
 ·exact ⟨rfl,rfl,rfl,Nat.le_refl _,fun _ _=>rfl⟩
 ·exact fun u u' h hb=>(by first | exact h.below hb | exact h.trans (hb.mono h.size))
 (apply wpT_exact;· (intro w' hC hf;unfold Gives;clear hf hC;go_wp2_with (fail);apply postT_val rfl (Below.refl _ _);simp only [valAt,aA,aE,aC,aD,aH];exact rfl));(try simp only [Act.put,aB,aF,aG])
 iterate 5 ((apply wpT_exact;· (intro w' hC hf;unfold Gives;have hbk:=HBK.out.below hC HBK.out.lt;have c0:=hbk.cell 0;have c1:=hbk.cell 1;have c4:=hbk.cell 4;have c5:=hbk.cell 5;simp at c0 c1 c4 c5;clear hbk;clear hf hC;go_wp2_with (fail);apply postT_val rfl (Below.refl _ _);simp only [valAt,aA,aE,aC,aD,aH];exact rfl));(try simp only [Act.put,aB,aF,aG]))
 (apply wpT_exact;· (intro w' hC hf;unfold Gives;clear hf hC;go_wp2_with (go_at_call 106;((with_reducible refine (CN.out _).mono ?_));rintro e w2 ⟨rfl,hb2⟩);apply postT_val rfl (by assumption);simp only [valAt,aA,aE,aC,aD,aH];exact rfl));(try simp only [Act.put,aB,aF,aG])
 iterate 7 ((apply wpT_exact;· (intro w' hC hf;unfold Gives;have hbk:=HBK.out.below hC HBK.out.lt;have c0:=hbk.cell 0;have c1:=hbk.cell 1;have c4:=hbk.cell 4;have c5:=hbk.cell 5;simp at c0 c1 c4 c5;clear hbk;clear hf hC;go_wp2_with (fail);apply postT_val rfl (Below.refl _ _);simp only [valAt,aA,aE,aC,aD,aH];exact rfl));(try simp only [Act.put,aB,aF,aG]))
 apply wpT_typed (slBlk_kept 4 20 #[.iface 9 (.string nm),.iface 9 (.string (Sx.orN of_)),.iface 3 (.int .i64 lo),.iface 3 (.int .i64 hi)])
 ·intro w' hC hf;unfold Gives;clear hf hC;go_wp2_with fail;apply postT_mk rfl (by go_grown);simp only [valAt,aA,aE,aC,aD,aH];exact ⟨_,rfl,Blk.new _ _ _⟩
 intro vsl;(try simp only [Act.put,aB,aF,aG])
 (apply wpT_exact;· (intro w' hC hf;unfold Gives;obtain ⟨g,rfl,hB⟩:=hf.1 rfl;have CQ:=aI (CL.out g w' hB hC);clear hf hC hB;go_wp2_with (go_at_call 104;((with_reducible refine (CQ.out).mono ?_));rintro e w2 ⟨rfl,hb2⟩);apply postT_val rfl (by assumption);simp only [valAt,aA,aE,aC,aD,aH];exact rfl));(try simp only [Act.put,aB,aF,aG])
 (apply wpT_exact;· (intro w' hC hf;unfold Gives;clear hf hC;go_wp2_with (fail);apply postT_val rfl (Below.refl _ _);simp only [valAt,aA,aE,aC,aD,aH];exact rfl));(try simp only [Act.put,aB,aF,aG])
 apply wpT_done
 intro w4 hC _
 replace HB:=aI (HB.out.trans (hC.mono HB.out.size))
 clear hC
 go_wp2_with fail
 go_ret
 exact ⟨by rw [show Sx.lineT (Sx.fldT ((nm,of_,up,5,lo,hi,ws,ns):Fld))=Sx.lineT (Sx.wordsL.getD 5 []::[.s nm,.s (Sx.orN of_),.n lo,.n hi].map Sx.Av.t) by show _=Sx.lineT [_,_,Sx.bs (Sx.orN of_),_,_];rw [Sx.orN_list];rfl];rfl,HB.out⟩
end Go.Proofs.YtmplaikgbeeikaaGreatDoor
namespace Go.Proofs.YtmplaikgbeeikaaGreatDoor
open Go Go.RowKit
namespace Sx
def pickAv:List ByteArray→List Int→List Av
 | w::ws,n::ns=>.s w::.n n::pickAv ws ns
 | _,_=>[]
theorem pickAv_t:∀ (ws:List ByteArray) (ns:List Int),(pickAv ws ns).map Av.t=picksT ws ns
 | [],_=>rfl
 | _::_,[]=>rfl
 | w::ws,n::ns=>by
  show bs w::num n::(pickAv ws ns).map Av.t=bs w::num n::picksT ws ns
  rw [pickAv_t ws ns]
theorem pickAv_snoc:∀ (ws:List ByteArray) (ns:List Int) (k:Nat) (h1:k < ws.length) (h2:k < ns.length),pickAv (ws.take k) (ns.take k)++[.s ws[k],.n ns[k]]=pickAv (ws.take (k+1)) (ns.take (k+1))
 | w::ws,n::ns,0,_,_=>rfl
 | w::ws,n::ns,k+1,h1,h2=>by
  have:=pickAv_snoc ws ns k (by simpa using h1) (by simpa using h2)
  show Av.s w::Av.n n::(pickAv (ws.take k) (ns.take k)++[.s (ws[k]'(by simpa using h1)),.n (ns[k]'(by simpa using h2))])=Av.s w::Av.n n::pickAv (ws.take (k+1)) (ns.take (k+1))
  rw [this]
theorem pickAv_len:∀ (ws:List ByteArray) (ns:List Int),ws.length=ns.length→(pickAv ws ns).length=2*ws.length
 | [],[],_=>rfl
 | w::ws,n::ns,h=>by
  have:=pickAv_len ws ns (by simpa using h)
  show (pickAv ws ns).length+1+1=2*(ws.length+1)
  omega
theorem pickAv_fit:∀ (ws:List ByteArray) (ns:List Int),(∀ w∈ws,w.size≤12)→(∀ n∈ns,0≤n∧n≤1048576)→∀ a∈pickAv ws ns,a.fit
 | [],_,_,_,a,ha=>by cases ha
 | _::_,[],_,_,a,ha=>by cases ha
 | w::ws,n::ns,h1,h2,a,ha=>by
  rcases aL ha with rfl | ha
  ·exact Nat.le_trans (h1 w (.head _)) (by decide)
  ·rcases aL ha with rfl | ha
   ·have:=h2 n (.head _)
    show -1000000000≤n∧n≤1000000000
    omega
   ·exact pickAv_fit ws ns (fun x hx=>h1 x (.tail _ hx)) (fun x hx=>h2 x (.tail _ hx)) a ha
end Sx
theorem avCells_append (a b:List Sx.Av):avCells (a++b)=avCells a++avCells b:=by simp [avCells]
set_option maxRecDepth 100000 in
set_option maxHeartbeats 8000000 in
theorem pfield_3 (nm of_ up:ByteArray) (lo hi:Int) (ws:List ByteArray) (ns:List Int) (us:List Value) (w:World) (h:Mem.rep [] w ((nm,of_,up,3,lo,hi,ws,ns):Fld) us) (hf:Sx.FB ((nm,of_,up,3,lo,hi,ws,ns):Fld)) (he:SEnv w):Calls Tryz.prog 105 #[.agg us.toArray] w (LineP (Sx.fldT ((nm,of_,up,3,lo,hi,ws,ns):Fld)) w):=by
 obtain ⟨A,c,B,d,rfl,s1,s2,a4,a5,a6,a1,a2,a3,b1,b2,e1,e2⟩:=rep_fld h
 have s1:SlAt [] w A ws:=s1
 have s2:SlAt [] w B ns:=s2
 have b1:ws.length≤c:=b1
 have e1:ns.length≤d:=e1
 obtain ⟨h1,h2,h3,h4,h5,h6,h7,h8,h9,_⟩:=hf
 replace h1:nm.size≤12:=h1
 replace h2:of_.size≤12:=h2
 replace h3:up.size≤12:=h3
 replace h4:-1048576≤lo∧lo≤1048576:=h4
 replace h5:-1048576≤hi∧hi≤1048576:=h5
 obtain ⟨W1,hW1⟩:∃ X,w.alloc (.cells #[.string nm,.string of_,.string up,.int .i64 3,.int .i64 lo,.int .i64 hi,.slice A ws.length c,.slice B ns.length d] 52)=X:=⟨_,rfl⟩
 have hb0:Below w.heap.size w W1:=by rw [← hW1];exact (Below.refl w.heap.size w).alloc (Nat.le_refl _) _
 have HB:=aI hb0
 have hbk:Blk W1 w.heap.size 52 #[.string nm,.string of_,.string up,.int .i64 3,.int .i64 lo,.int .i64 hi,.slice A ws.length c,.slice B ns.length d]:=by rw [← hW1];exact Blk.new w _ _
 have c0:=hbk.cell 0;have c1:=hbk.cell 1;have c2:=hbk.cell 2;have c3:=hbk.cell 3;have c4:=hbk.cell 4;have c5:=hbk.cell 5;have c6:=hbk.cell 6;have c7:=hbk.cell 7
 simp at c0 c1 c2 c3 c4 c5 c6 c7
 have he1:=he.below hb0 he.sz
 have cw:=he1.words 3 (by decide)
 have HE:=aI he1
 have HBK:=aI hbk
 obtain ⟨wd,hwd⟩:∃ s,wdS 3=s:=⟨_,rfl⟩
 have hws:wd.size≤1000:=by rw [← hwd];exact wdS_size 3 (by decide)
 have HWD:=aI (show Sx.bs wd=Sx.wordsL.getD 3 [] by rw [← hwd];exact wdS_bs 3)
 rw [hwd] at cw
 have HW1:=aI hW1
 show Calls Tryz.prog 105 #[.agg #[.string nm,.string of_,.string up,.int .i64 3,.int .i64 lo,.int .i64 hi,.slice A ws.length c,.slice B ns.length d]] w _
 replace h6:ws.length≤12:=h6
 replace h7:ns.length=ws.length:=h7
 replace h8:∀ s∈ws,s.size≤12:=h8
 replace h9:∀ n∈ns,0≤n∧n≤1048576:=h9
 have s1':SlAt [] W1 A ws:=s1.keep (Chg.of_below hb0)
 have s2':SlAt [] W1 B ns:=s2.keep (Chg.of_below hb0)
 have T0:=aI ((((held0 W1 [] (fun _ h=>by cases h)).add (keeps_sl B ns) s2').add (keeps_sl A ws) s1').add (P:=fun M W=>w.heap.size∉M∧Blk W w.heap.size 52 #[.string nm,.string of_,.string up,.int .i64 3,.int .i64 lo,.int .i64 hi,.slice A ws.length c,.slice B ns.length d]) (keeps_blk _ _ _) ⟨by simp,hbk⟩)
 obtain ⟨n,hn⟩:∃ n,ws.length=n:=⟨_,rfl⟩
 have HN:=aI hn
 have HN2:=aI (h7.trans hn)
 have HP0:=aI (show ∀ a∈Sx.Av.s nm::Sx.Av.n (n:Int)::Sx.pickAv ws ns,a.fit from fun a ha=>by
  rcases aL ha with rfl | ha
  ·exact (show nm.size≤100 by omega)
  ·rcases aL ha with rfl | ha
   ·exact (show -1000000000≤(n:Int)∧(n:Int)≤1000000000 by omega)
   ·exact Sx.pickAv_fit ws ns h8 h9 a ha)
 have HNL:=aI (show n≤12 by omega)
 show Calls Tryz.prog 105 #[.agg #[.string nm,.string of_,.string up,.int .i64 3,.int .i64 lo,.int .i64 hi,.slice A ws.length c,.slice B ns.length d]] w _
 rw [h7,hn]
 rw [h7,hn] at c7 T0 HW1
 rw [hn] at c6
 obtain ⟨N,hNN⟩:∃ N,w.heap.size=N:=⟨_,rfl⟩
 rw [hNN] at c0 c1 c2 c3 c4 c5 c6 c7 T0
 obtain ⟨M1,hr1,_⟩:=T0.out.take ((Below.refl _ _).alloc (Nat.le_refl _) _) (World.ownsRow_lit (base:=W1.heap.size) (size:=1) (e:=20) W1 #[.iface 9 (.string nm),.iface 3 (.int .i64 (n:Int))] 2 (Nat.le_refl _) (by decide) rfl)
 have T:=aI hr1
 have HX:=aI (show HRow W1 [] M1 [] _ 20 1 (.slice (some ⟨W1.heap.size,0,none⟩) 2 2) 2 [.iface 9 (.string nm),.iface 3 (.int .i64 (n:Int))] _ from hr1)
 clear h s1 s2 a1 a2 a3 a4 a5 a6 b1 b2 e1 e2 h1 h2 h3 h4 h5 h6 h7 h8 h9 hbk hW1 hb0 he1 he hwd s1' s2' hn hr1
 go_enter Tryz.func105,Tryz.ntmps105
 go_upto_region 1 with fail
 rw [HW1.out]
 go_upto_region 9 with fail
 clear hNN HX c0 c1 c2 c3 c4 c5 c6 c7 T0
 generalize W1.alloc (.cells #[.iface 9 (.string nm),.iface 3 (.int .i64 (n:Int))] 20)=W2 at *
 have c6:=(T.out.h.fact (.head _)).2.cell 6;have c7:=(T.out.h.fact (.head _)).2.cell 7
 simp at c6 c7
 go_wp2_with fail
 clear c6 c7
 go_loopg [4,51] n (fun r v i wr=>∃ (k:Nat) (M:List Nat),k+r=n∧i=.int .i64 k∧HRow W1 [] M [] [fun M W=>N∉M∧Blk W N 52 #[.string nm,.string of_,.string up,.int .i64 3,.int .i64 lo,.int .i64 hi,.slice A n c,.slice B n d],fun M W=>SlAt M W A ws,fun M W=>SlAt M W B ns] 20 1 v (2+2*k) (avCells (Sx.Av.s nm::Sx.Av.n (n:Int)::Sx.pickAv (ws.take k) (ns.take k))) wr)
 case atStart=>exact ⟨0,_,by omega,rfl,T.out⟩
 case round =>
  obtain ⟨k,M,hk,rfl,hb⟩:=hrel
  obtain ⟨wo,rfl⟩:∃ wo:World,wo=wr:=⟨_,rfl⟩
  replace T:=aI hb
  clear hb
  have hbk:=(T.out.h.fact (.head _)).2
  have c6:=hbk.cell 6;have c7:=hbk.cell 7
  simp at c6 c7
  clear hbk
  have hn12:n≤12:=HNL.out
  by_cases hlt:k < n
  ·have hkp:k < ws.length:=by rw [HN.out];exact hlt
   have hkq:k < ns.length:=by rw [HN2.out];exact hlt
   have k0:(0:Int)≤(k:Int):=Int.natCast_nonneg _
   have k1:(k:Int) < (n:Int):=by omega
   obtain ⟨A4,c4,rfl⟩:=own_form T.out.own
   obtain ⟨b,o,rfl,_,d0,_⟩:=str_at (T.out.h.fact (.tail _ (.head _))) k hkp
   obtain ⟨b2,o2,rfl,_,d1,hI2⟩:=int_at (T.out.h.fact (.tail _ (.tail _ (.head _)))) k hkq
   have HS:=aI (show avCells (Sx.Av.s nm::Sx.Av.n (n:Int)::Sx.pickAv (ws.take k) (ns.take k))++[.iface 9 (.string ws[k]),.iface 3 (.int .i64 ns[k])]=avCells (Sx.Av.s nm::Sx.Av.n (n:Int)::Sx.pickAv (ws.take (k+1)) (ns.take (k+1))) by
    rw [← Sx.pickAv_snoc ws ns k hkp hkq,← List.cons_append,← List.cons_append,avCells_append];rfl)
   generalize ws[k]=x0 at d0 HS
   generalize ns[k]=y0 at d1 HS hI2
   obtain ⟨i0,hI,hz0,hz1,hz2⟩:=info_parts infoAny
   have HII:=aI (show _∧_∧_∧_ from ⟨hI,hz0,hz1,hz2⟩)
   clear hI hz0 hz1 hz2
   go_wp2_with (at_builtin;obtain ⟨hI,hz0,hz1,hz2⟩:=HII.out;refine wpList_append_row (by rfl) _ _ 143 (by rfl) 20 i0 _ 1 16 Tryz.underlying143 hI hz0 hz1 hz2 rfl (by decide) (T.out.below ((Below.refl _ _).alloc (Nat.le_refl _) _)) (by rfl) _ _ 2 2 [.iface 9 (.string x0),.iface 3 (.int .i64 y0)] (by rfl) (reads_blk (Blk.new _ _ _) rfl) (by simp [Value.oneCell']) (by unfold maxLen;omega) (by omega) ?_;intro v7 w7 M7 h7 _;rw [HS.out] at h7;replace T:=aI h7;clear h7 hI hz0 hz1 hz2)
   go_roundg (gk - 1)
   case measure=>omega
   case rel=>exact ⟨k+1,_,by omega,by go_num,T.out⟩
  ·have k1:¬ (k:Int) < (n:Int):=by omega
   obtain rfl:k=n:=by omega
   rw [List.take_of_length_le (Nat.le_of_eq HN.out),List.take_of_length_le (Nat.le_of_eq HN2.out)] at T
   have hpl:=Sx.pickAv_len ws ns (HN.out.trans HN2.out.symm)
   rw [HN.out] at hpl
   obtain ⟨A4,c4,hv,hc1,hc2,hF⟩:=T.out.freeze (α:=Sx.Av) (l:=Sx.Av.s nm::Sx.Av.n (k:Int)::Sx.pickAv ws ns) rfl (by rw [List.length_cons,List.length_cons,hpl];omega) (flat_avs HP0.out) (fun g hg=>by cases hg)
   subst hv
   have CL:=aI (line_any wd (Sx.Av.s nm::Sx.Av.n (k:Int)::Sx.pickAv ws ns) A4 c4 wo ((hF.fact (.head _)).sub (fun g hg=>by cases hg)) (fun a ha=>(HP0.out a ha).ok) (by rw [List.length_cons,List.length_cons,hpl];omega) hws (HE.out.t.below T.out.h.bl HE.out.t.sz))
   have HBO:=aI (HB.out.trans (T.out.h.bl.mono HB.out.size))
   rw [HWD.out] at CL
   have HT:=aI (show Sx.lineT (Sx.wordsL.getD 3 []::(Sx.Av.s nm::Sx.Av.n (k:Int)::Sx.pickAv ws ns).map Sx.Av.t)=Sx.lineT (Sx.fldT ((nm,of_,up,3,lo,hi,ws,ns):Fld)) by
    show Sx.lineT (_::Sx.bs nm::Sx.num (k:Int)::(Sx.pickAv ws ns).map Sx.Av.t)=Sx.lineT (_::Sx.bs nm::Sx.num (ws.length:Int)::Sx.picksT ws ns)
    rw [Sx.pickAv_t,HN.out])
   rw [HT.out] at CL
   generalize (Sx.Av.s nm::Sx.Av.n (k:Int)::Sx.pickAv ws ns).length=ln at *
   clear hF hc1 hc2 T
   go_wp2_with (go_at_call 104;((with_reducible refine (CL.out).mono ?_));rintro e w2 ⟨rfl,hb2⟩;replace HBO:=aI (HBO.out.trans (hb2.mono HBO.out.size));clear hb2)
   go_ret
   exact ⟨rfl,HBO.out⟩
theorem pfield_any (f:Fld) (us:List Value) (w:World) (h:Mem.rep [] w f us) (hf:Sx.fldB f=true) (he:SEnv w):Calls Tryz.prog 105 #[.agg us.toArray] w (LineP (Sx.fldT f) w):=by
 have hb:=Sx.fldB_bd hf
 obtain ⟨nm,of_,up,kd,lo,hi,ws,ns⟩:=f
 obtain ⟨k,hk,hkd⟩:=hb.kd
 obtain rfl:kd=(k:Int):=hkd
 rcases (show k=0∨k=1∨k=2∨k=3∨k=4∨k=5∨k=6∨k=7∨k=8 by omega) with rfl | rfl | rfl | rfl | rfl | rfl | rfl | rfl | rfl
 ·exact pfield_0 nm of_ up lo hi ws ns us w h hb he
 ·exact pfield_1 nm of_ up lo hi ws ns us w h hb he
 ·exact pfield_2 nm of_ up lo hi ws ns us w h hb he
 ·exact pfield_3 nm of_ up lo hi ws ns us w h hb he
 ·exact pfield_4 nm of_ up lo hi ws ns us w h hb he
 ·exact pfield_5 nm of_ up lo hi ws ns us w h hb he
 ·exact pfield_6 nm of_ up lo hi ws ns us w h hb he
 ·exact pfield_7 nm of_ up lo hi ws ns us w h hb he
 ·exact pfield_8 nm of_ up lo hi ws ns us w h hb he
end Go.Proofs.YtmplaikgbeeikaaGreatDoor
