/- VmAgain: the law's walk. -/
import Derived.Test.YtdpcdocaahjeoaaDoorVmL2
import Derived.Test.YtdpcdocaahjeoaaDoorW49
import Derived.WalkLawsBesides
import Derived.Laws.StructEq
import Derived.Deep.RegionHeld3
namespace Go.Proofs.YtdpcdocaahjeoaaDoor
open Go Go.RowKit
theorem print_len {s : Vm.Shape} {p : List Vm.Ins} (h : Vm.Fine s 20 p) : (Vm.print p).length ≤ 820 := by
  unfold Vm.print
  rw [if_pos (h.vld (by decide))]
  have := Vm.source_len h.ok (by have := h.len; omega)
  have := h.len
  omega
/-- Parse of what Print says. -/
theorem parse_again {s : Vm.Shape} {p : List Vm.Ins} (h : Vm.Fine s 20 p) {t : ByteArray} (ht : ⟨(Vm.print p).toArray⟩ = t) (W : World) :
    Calls Tryd.prog 28 #[.string t] W fun e w' => ∃ v, e = .returned (.tuple #[v, .int .i64 0, .int .i64 0]) ∧ Rep [] w' p v ∧ Below W.heap.size W w' := by
  have hl : t.data.toList = Vm.print p := by rw [← ht]
  have hs : t.size ≤ 1000000 := by rw [← ht]; have := print_len h; show (Vm.print p).toArray.size ≤ _; simp; omega
  have e := Vm.parse_print (h.vld (by decide))
  refine (parse_any t W hs).mono fun e' w' hp => ?_
  unfold ParseP at hp
  rw [hl, e] at hp
  exact hp
theorem row_sl {w W : World} {M : List Nat} {bx : List Box} {L : List (List Nat → World → Prop)} {rs : List Rw} {A : Option Addr} {n c : Nat} {xs : List Value} {l : List Vm.Ins} (h : HR w [] M bx (⟨58, 4, .slice A n c, n, xs⟩ :: rs) L W) (hx : xs = insVals l) (hn : n = l.length) (ha : AllIns l) : SlAt [] W A l := by
  subst hn hx
  have hr : Rep [] W l (.slice A l.length c) := Rep.of_own (h.own _ (.head _)) (flat_ins ha) (fun _ _ h => by cases h)
  obtain ⟨A', c', h1, _, _, h4⟩ := sl_of hr
  injection h1 with h1 _ _
  subst h1
  exact h4
theorem reads_ins {w : World} {A : Option Addr} {l : List Vm.Ins} (h : SlAt [] w A l) : Reads w w.heap.size 4 A l.length (insVals l) := by
  obtain ⟨xs, hr, hf⟩ := h.reads
  rw [flat_insVals hf] at hr
  exact hr
theorem kept_fine (s : Vm.Shape) : Kept (fun v w => ∃ q, Vm.Fine s 20 q ∧ Rep [] w q v) := fun _ _ _ ⟨q, hq, hr⟩ hb => ⟨q, hq, Mem.keep hr (Chg.of_below hb)⟩
theorem kept_own (base : Nat) (e : TypeId) (size n : Nat) (xs : List Value) : Kept (fun v w => w.ownsRow base e size v n xs) := fun _ _ _ h hb => owns_below h hb
set_option maxRecDepth 100000 in
set_option maxHeartbeats 16000000 in
theorem law_again (l m k o : List Int) (A B C D : Option Addr) (c d f g : Nat) (w : World) (ht : TEnv w) (hl : SlAt [] w A l) (hm : SlAt [] w B m) (hk : SlAt [] w C k) (ho : SlAt [] w D o) (hc : l.length ≤ c) (hc2 : c ≤ 9223372036854775807) (hd : m.length ≤ d) (hd2 : d ≤ 9223372036854775807) (hf : k.length ≤ f) (hf2 : f ≤ 9223372036854775807) (hg : o.length ≤ g) (hg2 : g ≤ 9223372036854775807) :
    Calls Tryd.prog 8 #[.slice A l.length c, .slice B m.length d, .slice C k.length f, .slice D o.length g] w fun e w' => e = .returned (.bool true) ∧ Below w.heap.size w w' := by
  have CS := Lib.hid (fun W (h : SlAt [] W A l) => schemaU_any l A c W h hc hc2)
  have CW := Lib.hid (fun (x : Sch) (v : Value) W (hx : SchV x W v) (hs : Sg.Schema x) (h : SlAt [] W C k) => world_any x v k C f false W hx h (by omega) (by have := hs.bd'.2.1; omega) (fun kn hkn => by have := (hs.bd'.2.2 kn hkn).2; omega))
  have CP := Lib.hid (fun (x : Sch) (v : Value) W (hx : SchV x W v) (hk : Sg.Schema x) (h : SlAt [] W B m) => program_any x v m B d W hx h (by omega) hk.bd'.1 (by have := hk.bd'.2.1; omega) hk.bd'.2.2)
  have CP2 := Lib.hid (fun (x : Sch) (v : Value) W (hx : SchV x W v) (hk : Sg.Schema x) (h : SlAt [] W D o) => program_any x v o D g W hx h (by omega) hk.bd'.1 (by have := hk.bd'.2.1; omega) hk.bd'.2.2)
  have CO := Lib.hid (fun (p : List Vm.Ins) A c W (h : SlAt [] W A p) (hp : p.length ≤ 1000) => own_any p A c W h (by omega))
  have CPL := Lib.hid (fun (p : List Vm.Ins) A c W (h : SlAt [] W A p) (hp : p.length ≤ 1000) => plain_any p A c W h (by omega))
  have CPR := Lib.hid (fun (p : List Vm.Ins) A c W (h : SlAt [] W A p) (hp : p.length ≤ 1000) (hE : TEnv W) => print_any p A c W h (by omega) hE)
  have CL := Lib.hid lives_any
  have T0 := Lib.hid (((((held0 w [] (fun _ h => by cases h)).add (keeps_sl D o) ho).add (keeps_sl C k) hk).add (keeps_sl B m) hm).add (keeps_sl A l) hl)
  obtain ⟨n1, hn1⟩ : ∃ n, l.length = n := ⟨_, rfl⟩
  obtain ⟨n2, hn2⟩ : ∃ n, m.length = n := ⟨_, rfl⟩
  obtain ⟨n3, hn3⟩ : ∃ n, k.length = n := ⟨_, rfl⟩
  obtain ⟨n4, hn4⟩ : ∃ n, o.length = n := ⟨_, rfl⟩
  have HTE := Lib.hid ht
  rw [hn1] at CS
  rw [hn2] at CP
  rw [hn3] at CW
  rw [hn4] at CP2
  rw [hn1, hn2, hn3, hn4]
  clear ht hl hm hk ho hc hc2 hd hd2 hf hf2 hg hg2 hn1 hn2 hn3 hn4
  unfold SchemaU at CS
  unfold ProgP at CP CP2
  unfold WorldP at CW
  unfold CopyP at CO CPL
  go_enter Tryd.func8, Tryd.ntmps8
  go_upto_region 2 with (go_at_call 9; refine (CS.out _ (T0.out.fact (.head _))).mono ?_; rintro e w1 ⟨x, A1, c1, A2, c2, A3, c3, rfl, hsx, hu, hb⟩; have T1 := Lib.hid ((T0.out.below hb).add (keeps_rep x _) hu); have HSX := Lib.hid hsx; clear hsx hu hb)
  have T2 := Lib.hid (T1.out.made #[.int .i64 x.1, .slice A1 (Sc.kinds x).length c1, .slice A2 x.2.2.1.length c2, .slice A3 x.2.2.2.length c3] 27 rfl)
  generalize hW : w1.alloc _ = W2 at T2 ⊢
  generalize w1.heap.size = gx at T2 ⊢
  clear hW T1 T0
  have HX := Lib.hid (T2.out.fact (.tail _ (.head _)))
  have C2 := Lib.hid (CW.out x (.agg #[.int .i64 x.1, .slice A1 (Sc.kinds x).length c1, .slice A2 x.2.2.1.length c2, .slice A3 x.2.2.2.length c3]) W2 ⟨_, rfl, HX.out⟩ HSX.out (T2.out.fact (.tail _ (.tail _ (.tail _ (.tail _ (.head _)))))))
  have y := cells4 (T2.out.blk (.head _))
  obtain ⟨y0, y1, y2, y3⟩ := y
  go_upto_region 3 with (go_at_call 10; ((with_reducible refine (C2.out).mono ?_)); rintro e w3 ⟨wl, v3, rfl, hrw, hlw, hbw, hb⟩; obtain ⟨Aw, cw, rfl, _, _, hsw⟩ := sl_of hrw; have T3 := Lib.hid ((T2.out.below hb).add (keeps_sl Aw wl) hsw); have HWL := Lib.hid hlw; have HWB := Lib.hid hbw; clear hrw hlw hbw hb hsw)
  have T4 := Lib.hid (T3.out.made #[.slice Aw wl.length cw] 46 rfl)
  generalize hW : w3.alloc _ = W4 at T4 ⊢
  generalize w3.heap.size = gw at T4 ⊢
  clear hW T3 T2 C2 HX y0 y1 y2 y3
  obtain ⟨y0, y1, y2, y3⟩ := cells4 (T4.out.blk (.tail _ (.tail _ (.head _))))
  have C3 := Lib.hid (CP.out x (.agg #[.int .i64 x.1, .slice A1 (Sc.kinds x).length c1, .slice A2 x.2.2.1.length c2, .slice A3 x.2.2.2.length c3]) W4 ⟨_, rfl, T4.out.fact (.tail _ (.tail _ (.tail _ (.head _))))⟩ HSX.out (T4.out.fact (.tail _ (.tail _ (.tail _ (.tail _ (.tail _ (.head _))))))))
  go_upto_region 4 with (go_at_call 11; ((with_reducible refine (C3.out).mono ?_)); rintro e w5 ⟨p, vp, rfl, hrp, hfp, hb⟩; obtain ⟨Aq, cq, rfl, _, _, hsq⟩ := sl_of hrp; have T5 := Lib.hid (T4.out.below hb); have HFP := Lib.hid hfp; have HSQ := Lib.hid hsq; clear hrp hfp hb hsq)
  have HBW := Lib.hid (T5.out.blk (.head _))
  have HSW := Lib.hid (T5.out.fact (.tail _ (.head _)))
  have HBX := Lib.hid (T5.out.blk (.tail _ (.tail _ (.head _))))
  have HMX := Lib.hid (T5.out.fact (.tail _ (.tail _ (.tail _ (.head _)))))
  have HSD := Lib.hid (T5.out.fact (.tail _ (.tail _ (.tail _ (.tail _ (.tail _ (.tail _ (.tail _ (.head _)))))))))
  have HB5 := Lib.hid T5.out.bl
  clear T5 T4 C3 y0 y1 y2 y3
  have HC := Lib.hid (fun W (hb : Below w5.heap.size w5 W) => cells4 (HBX.out.below hb HBX.out.lt))
  have HZ := Lib.hid (fun W (hb : Below w5.heap.size w5 W) => cells1' (HBW.out.below hb HBW.out.lt))
  have HTW := Lib.hid (fun W (hb : Below w5.heap.size w5 W) => HTE.out.below (Below.then_ HB5.out hb) HTE.out.sz)
  have hpl := HFP.out.len
  obtain ⟨ts, hts⟩ : ∃ t : ByteArray, ⟨(Vm.print p).toArray⟩ = t := ⟨_, rfl⟩
  have CPA := Lib.hid (parse_again HFP.out hts)
  have CPP := Lib.hid (fun A c W (h : SlAt [] W A p) hE => CPR.out p A c W h (by omega) hE)
  rw [hts] at CPP
  clear hts
  go_upto_region 5 with (first | (go_at_call 15; ((with_reducible refine (CO.out p Aq cq _ HSQ.out (by omega)).mono ?_)); rintro e w6 ⟨v6, rfl, hr6, hb⟩; obtain ⟨Ap, cp, rfl, _, _, hsp⟩ := sl_of hr6; have HB6 := Lib.hid hb; have HSP := Lib.hid hsp; clear hr6 hb hsp) | (go_at_call 24; ((with_reducible refine (CPP.out Ap cp _ HSP.out (HTW.out _ HB6.out)).mono ?_)); rintro e w7 ⟨rfl, hb⟩; have HB7 := Lib.hid (Below.then_ HB6.out hb); clear hb) | (go_at_call 28; ((with_reducible refine (CPA.out _).mono ?_)); rintro e w8 ⟨v8, rfl, hr8, hb⟩; obtain ⟨Av, cv, rfl, _, _, hsv⟩ := sl_of hr8; have HB8 := Lib.hid (Below.then_ HB7.out hb); have HSV := Lib.hid hsv; clear hr8 hb hsv))
  clear HB6 HB7 HSP
  have CSP := Lib.hid (fun A c W (h : SlAt [] W A p) (hb : Below w5.heap.size w5 W) => samePrograms_any p p A Aq c cq W h (HSQ.out.keep (Chg.of_below hb)) (by omega) (by omega))
  rw [decide_eq_true rfl] at CSP
  go_upto_region 8 with (first | (go_at_call 31; ((with_reducible refine (CPL.out p Av cv _ HSV.out (by omega)).mono ?_)); rintro e w9 ⟨v9, rfl, hr9, hb⟩; obtain ⟨A9, c9, rfl, _, _, hs9⟩ := sl_of hr9; have HB9 := Lib.hid (Below.then_ HB8.out hb); have HS9 := Lib.hid hs9; clear hr9 hb hs9) | (go_at_call 30; ((with_reducible refine (CSP.out A9 c9 _ HS9.out HB9.out).mono ?_)); rintro e w10 ⟨rfl, hb⟩; have HB10 := Lib.hid (Below.then_ HB9.out hb); clear hb))
  clear HB9 HB8 HS9 HSV CSP CPA CPP
  have H0 := Lib.hid ((HR.start (held0 w10 [] (fun _ h => by cases h))).push 58 4)
  have HRD := Lib.hid (reads_ins (HSQ.out.keep (Chg.of_below HB10.out)))
  go_upto_region 10 with (first | (at_builtin; obtain ⟨i0, hI, hz0, hz1, hz2⟩ := info_parts infoRIns; refine wpList_append_rows (by rfl) _ _ 32 (by rfl) 58 i0 _ 4 32 Tryd.underlying32 hI hz0 hz1 hz2 rfl (by decide) H0.out (by rfl) _ _ p.length cq (insVals p) (by rfl) (HRD.out) (insVals_one _) (by unfold maxLen; omega) (by omega) ?_; intro v11 w11 M11 h5 _; obtain ⟨A11, c11, rfl⟩ := h5.form (.head _); rw [List.nil_append, Nat.zero_add] at h5; have H1 := Lib.hid h5; clear h5 hI hz0 hz1 hz2) | (at_builtin; obtain ⟨i0, hI, hz0, hz1, hz2⟩ := info_parts infoRIns; refine wpList_append_rows (by rfl) _ _ 32 (by rfl) 58 i0 _ 4 32 Tryd.underlying32 hI hz0 hz1 hz2 rfl (by decide) (H1.out.below ((Below.refl _ _).alloc (Nat.le_refl _) _)) (by rfl) _ _ 1 1 [.int .i64 0, .int .i64 0, .int .i64 0, .int .i64 0] (by rfl) (reads_blk (Blk.new _ _ _) rfl) (by simp [Value.oneCell']) (by unfold maxLen; omega) (by omega) ?_; intro v12 w12 M12 h5 _; obtain ⟨Ae, ce, rfl⟩ := h5.form (.head _); have H2 := Lib.hid h5; clear h5 hI hz0 hz1 hz2))
  obtain ⟨E, hE⟩ : ∃ E, p ++ [((0, 0, 0, 0) : Vm.Ins)] = E := ⟨_, rfl⟩
  have hEl : E.length = p.length + 1 := by rw [← hE]; simp
  have hEa : AllIns E := by rw [← hE]; exact allIns_app (HFP.out.allIns (by decide)) (fun i hi => by rw [List.mem_singleton] at hi; subst hi; unfold inI; simp)
  have HSE := Lib.hid (row_sl H2.out (l := E) (by rw [← hE, insVals_snoc]; rfl) hEl.symm hEa)
  have HB12 := Lib.hid (Below.then_ HB10.out H2.out.h.bl)
  have HEL := Lib.hid hEl
  have HE := Lib.hid hE
  obtain ⟨nE, hnE⟩ : ∃ z, p.length + 1 = z := ⟨_, rfl⟩
  rw [hnE] at hEl ⊢
  have hnb : nE ≤ 21 := by omega
  have HNE := Lib.hid hEl
  clear H0 H1 H2 HRD hE hEl hEa hnE
  apply wp_region_typed (C := fun w' => Below w12.heap.size w12 w') (n := 101) (m := 6) (l1 := [_, _, _, _, _, _]) (l2 := [_, _])
  · rfl
  · rfl
  · kernel_rfl
  · rfl
  · kernel_rfl
  · exact below_drew w12
  · exact fun u u' h hb => (by first | exact h.below hb | exact h.trans (hb.mono h.size))
  (apply wpT_exact; · (intro w' hC hf; unfold Gives; clear hf hC; go_wp2_with (fail); apply postT_val rfl (Below.refl _ _); simp only [valAt, Array.getD_eq_getD_getElem?, List.getElem?_toArray, List.getElem?_cons_succ, List.getElem?_cons_zero, Option.getD_some]; exact rfl)); (try simp only [Act.put, List.setIfInBounds_toArray, List.set_cons_zero, List.set_cons_succ])
  (apply wpT_exact; · (intro w' hC hf; unfold Gives; clear hf hC; go_wp2_with (fail); apply postT_val rfl (Below.refl _ _); simp only [valAt, Array.getD_eq_getD_getElem?, List.getElem?_toArray, List.getElem?_cons_succ, List.getElem?_cons_zero, Option.getD_some]; exact rfl)); (try simp only [Act.put, List.setIfInBounds_toArray, List.set_cons_zero, List.set_cons_succ])
  apply wpT_typed (kept_own w12.heap.size 58 4 nE (insVals E))
  · intro w' hC hf; unfold Gives; clear hf
    obtain ⟨i0, hI, hz0, hz1, hz2⟩ := info_parts infoRIns
    have hrd := reads_ins (HSE.out.keep (Chg.of_below hC))
    rw [HNE.out] at hrd
    refine wpList_append_any _ (by rfl) _ _ 32 (by rfl) w12.heap.size 58 i0 _ 4 32 Tryd.underlying32 hI hz0 hz1 hz2 rfl (by decide) (.slice none 0 0) 0 [] (by rfl) (ownsRow_nil _ _ _ _ hC.size) _ _ nE ce (insVals E) (by rfl) hrd (insVals_one _) (by unfold maxLen; omega) (by omega) hC.size ?_
    intro v' w'' k1 k2 k3
    rw [List.nil_append, Nat.zero_add] at k1
    refine postT_mk rfl (Below.grown (Below.refl _ _) k2 (Nat.le_refl _) (fun k hk => by simp [Value.ownBlock] at hk)) ?_
    simp only [valAt, Array.getD_eq_getD_getElem?]
    exact k1
  intro v59; (try simp only [Act.put, List.setIfInBounds_toArray, List.set_cons_zero, List.set_cons_succ])
  (apply wpT_exact; · (intro w' hC hf; unfold Gives; obtain ⟨q0, q1, q2, q3⟩ := HC.out _ (Below.then_ HB12.out hC); clear hf hC; go_wp2_with (fail); apply postT_val rfl (Below.refl _ _); simp only [valAt, Array.getD_eq_getD_getElem?, List.getElem?_toArray, List.getElem?_cons_succ, List.getElem?_cons_zero, Option.getD_some]; exact rfl)); (try simp only [Act.put, List.setIfInBounds_toArray, List.set_cons_zero, List.set_cons_succ])
  (apply wpT_exact; · (intro w' hC hf; unfold Gives; clear hf hC; go_wp2_with (fail); apply postT_val rfl (Below.refl _ _); simp only [valAt, Array.getD_eq_getD_getElem?, List.getElem?_toArray, List.getElem?_cons_succ, List.getElem?_cons_zero, Option.getD_some]; exact rfl)); (try simp only [Act.put, List.setIfInBounds_toArray, List.set_cons_zero, List.set_cons_succ])
  apply wpT_typed (kept_fine (shp (Sc.kinds x)))
  · intro w' hC hf; unfold Gives; clear hf
    have C10 := Lib.hid (CP2.out x (.agg #[.int .i64 x.1, .slice A1 (Sc.kinds x).length c1, .slice A2 x.2.2.1.length c2, .slice A3 x.2.2.2.length c3]) w' ⟨_, rfl, Mem.keep HMX.out (Chg.of_below (G := []) (Below.then_ HB12.out hC))⟩ HSX.out (HSD.out.keep (Chg.of_below (Below.then_ HB12.out hC))))
    clear hC
    go_wp2_with (go_at_call 11; ((with_reducible refine (C10.out).mono ?_)); rintro e w13 ⟨q, vq, rfl, hrq, hfq, hb⟩)
    refine postT_mk rfl hb ?_
    simp only [valAt, Array.getD_eq_getD_getElem?, List.getElem?_toArray, List.getElem?_cons_succ, List.getElem?_cons_zero, Option.getD_some]
    exact ⟨q, hfq, hrq⟩
  intro v62; (try simp only [Act.put, List.setIfInBounds_toArray, List.set_cons_zero, List.set_cons_succ])
  apply wpT_done
  intro w13 hC hall
  obtain ⟨⟨q, hfq, hrq⟩, hown, _⟩ := hall
  obtain ⟨Aq2, cq2, rfl, _, _, hsq⟩ := sl_of hrq
  obtain ⟨M2, H, _⟩ := (HR.start (held0 w12 [] (fun _ h => by cases h))).take hC hown
  obtain ⟨i0, hI, hz0, hz1, hz2⟩ := info_parts infoRIns
  have hql := hfq.len
  refine wpList_append_rows (by rfl) _ _ 32 (by rfl) 58 i0 _ 4 32 Tryd.underlying32 hI hz0 hz1 hz2 rfl (by decide) H (by rfl) _ _ q.length cq2 (insVals q) (by rfl) (reads_ins hsq) (insVals_one _) (by unfold maxLen; omega) (by omega) ?_
  intro v14 w14 M14 h14 _
  obtain ⟨Al, cl, rfl⟩ := h14.form (.head _)
  obtain ⟨F, hF⟩ : ∃ F, E ++ q = F := ⟨_, rfl⟩
  have hFl : F.length = nE + q.length := by rw [← hF, List.length_append, HNE.out]
  have hEa : AllIns E := by rw [← HE.out]; exact allIns_app (HFP.out.allIns (by decide)) (fun i hi => by rw [List.mem_singleton] at hi; subst hi; unfold inI; simp)
  have HSF := Lib.hid (row_sl h14 (l := F) (by rw [← hF, insVals_append]) hFl.symm (by rw [← hF]; exact allIns_app hEa (hfq.allIns (by decide))))
  have HSE2 := Lib.hid (HSE.out.keep (Chg.of_below h14.h.bl))
  have HB14 := Lib.hid (Below.then_ HB12.out h14.h.bl)
  have hpo := HFP.out.ok
  have hrun := Vm.run_ext (w := wl) (n := 400) HFP.out hfq hpo (by omega) (by omega) (Vm.ended_vld HFP.out) (Vm.longer_vld HFP.out hfq)
  have hfe := Vm.ended_fine HFP.out
  rw [HE.out] at hrun hfe
  rw [hF] at hrun
  obtain ⟨⟨rc, rt, re⟩, hr⟩ : ∃ z, Vm.run (shp (Sc.kinds x)) E wl 400 = z := ⟨_, rfl⟩
  have hre := Vm.run_err hfe (by omega) (by omega) (by omega) hr
  rw [hr] at hrun
  have HRE := Lib.hid hre
  have hlE : E.length ≤ 1000000 := by rw [HNE.out]; omega
  have hlF : F.length ≤ 1000000 := by omega
  have hwl : wl.length ≤ 1000000 := by have := HWL.out; have := HSX.out.bd'.2.1; omega
  have CR11 := Lib.hid (fun (A : Option Addr) (c : Nat) w2 (hb : Below w14.heap.size w14 w2) (hs : SlAt [] w2 A E) => run_env (us := #[.int .i64 x.1, .slice A1 (Sc.kinds x).length c1, .slice A2 x.2.2.1.length c2, .slice A3 x.2.2.2.length c3]) (Mem.keep HMX.out (Chg.of_below (G := []) (Below.then_ HB14.out hb))) hs hlE (HSW.out.keep (Chg.of_below (Below.then_ HB14.out hb))) hwl 400 hr c cw)
  have CR12 := Lib.hid (fun (A : Option Addr) (c : Nat) w2 (hb : Below w14.heap.size w14 w2) (hs : SlAt [] w2 A F) => run_env (us := #[.int .i64 x.1, .slice A1 (Sc.kinds x).length c1, .slice A2 x.2.2.1.length c2, .slice A3 x.2.2.2.length c3]) (Mem.keep HMX.out (Chg.of_below (G := []) (Below.then_ HB14.out hb))) hs hlF (HSW.out.keep (Chg.of_below (Below.then_ HB14.out hb))) hwl 400 hrun.symm c cw)
  have CO11 := Lib.hid (fun W (hb : Below w14.heap.size w14 W) => CO.out E Ae ce W (HSE2.out.keep (Chg.of_below hb)) (by rw [HNE.out]; omega))
  have CO12 := Lib.hid (fun W (hb : Below w14.heap.size w14 W) => CO.out F Al cl W (HSF.out.keep (Chg.of_below hb)) (by omega))
  rw [HNE.out] at CO11
  rw [hFl] at CO12
  have E14 := Lib.hid (fun W (hb : Below w14.heap.size w14 W) => let h := HC.out W (Below.then_ HB14.out hb); (⟨h.1, h.2.1, h.2.2.1, h.2.2.2, HZ.out W (Below.then_ HB14.out hb)⟩ : (fun w' => w'.cell? ⟨gx, 0, none⟩ = some (.int .i64 x.1) ∧ w'.cell? ⟨gx, 1, none⟩ = some (.slice A1 (Sc.kinds x).length c1) ∧ w'.cell? ⟨gx, 2, none⟩ = some (.slice A2 x.2.2.1.length c2) ∧ w'.cell? ⟨gx, 3, none⟩ = some (.slice A3 x.2.2.2.length c3) ∧ w'.cell? ⟨gw, 0, none⟩ = some (.slice Aw wl.length cw)) W))
  obtain ⟨nF, hnF⟩ : ∃ z, nE + q.length = z := ⟨_, rfl⟩
  rw [hnF] at CO12 ⊢
  clear hC hown hrq hsq H hI hz0 hz1 hz2 h14 hF hFl hEa hpo hrun hfe hr hre hlE hlF hwl hnF hfq hql hpl
  go_upto_region 11 with fail
  go_cut [17, 18] from 64 to 72 (fun a b w' => ∃ g, a = .pointer (some ⟨g, 0, none⟩) ∧ b = .int .i64 re ∧ ResBox w14 w' g 38 (.int .i64 rc) (.int .i64 rt))
  case first =>
    rename_i hK
    obtain ⟨y0, y1, y2, y3, y4⟩ := E14.out _ (below_drew _)
    go_region_held3 (fun w' => w'.cell? ⟨gx, 0, none⟩ = some (.int .i64 x.1) ∧ w'.cell? ⟨gx, 1, none⟩ = some (.slice A1 (Sc.kinds x).length c1) ∧ w'.cell? ⟨gx, 2, none⟩ = some (.slice A2 x.2.2.1.length c2) ∧ w'.cell? ⟨gx, 3, none⟩ = some (.slice A3 x.2.2.2.length c3) ∧ w'.cell? ⟨gw, 0, none⟩ = some (.slice Aw wl.length cw)) (first | exact E14.out _ (below_drew _) | exact E14.out _ (below_drew_alloc _ _) | exact E14.out _ (below_alloc_drew _ _) | exact E14.out _ HBO.out | exact HZ1.out _ | exact E14.out _ HB9.out | exact HQ1.out _ | exact HQ3.out _ _ | exact HQ4.out _ _) (first | (go_at_call 15; ((with_reducible refine (CO11.out _ (by first | exact below_drew _ | exact below_drew_alloc _ _ | exact below_alloc_drew _ _)).mono ?_)); rintro e w2o ⟨v2, rfl, hr2, hbo⟩; obtain ⟨Ao, co, rfl, _, _, hso⟩ := sl_of hr2; have HBO := Lib.hid (Below.then_ (a := w14) (by first | exact below_drew _ | exact below_drew_alloc _ _ | exact below_alloc_drew _ _) hbo); have HSO := Lib.hid hso; obtain ⟨z0, z1, z2, z3, z4⟩ := E14.out _ HBO.out; have HZ1 := Lib.hid (fun o => E14.out _ (Below.then_ HBO.out (below_alloc w2o o))); have k0 := hbo.cell (p := ⟨w14.heap.size, 0, none⟩); (try simp at k0); have k1 := hbo.cell (p := ⟨w14.heap.size, 1, none⟩); (try simp at k1); have k2 := hbo.frozen (p := ⟨w14.heap.size, 0, none⟩); (try simp at k2); have k3 := hbo.frozen (p := ⟨w14.heap.size, 1, none⟩); (try simp at k3); have hz := hbo.size; (try simp at hz); have HBP := Lib.hid hbo; clear hr2 hbo hso) | (go_at_call 14; ((with_reducible refine (CR11.out Ao co w2o HBO.out HSO.out _ (by first | exact Below.refl _ _ | exact below_alloc _ _)).mono ?_)); rintro e w9 ⟨rfl, hb⟩; have HB9 := Lib.hid (Below.then_ HBO.out (Below.then_ (by first | exact Below.refl _ _ | exact below_alloc _ _) hb)); obtain ⟨q0, q1, q2, q3, q4⟩ := E14.out _ HB9.out; have HQ1 := Lib.hid (fun o => E14.out _ (Below.then_ HB9.out (below_alloc w9 o))); have p0 := hb.cell (p := ⟨w14.heap.size, 0, none⟩); (try simp [Nat.lt_of_succ_le hz, k0] at p0); have p1 := hb.cell (p := ⟨w14.heap.size, 1, none⟩); (try simp [Nat.lt_of_succ_le hz, k1] at p1); have p2 := hb.frozen (p := ⟨w14.heap.size, 0, none⟩); (try simp [Nat.lt_of_succ_le hz, k2] at p2); have p3 := hb.frozen (p := ⟨w14.heap.size, 1, none⟩); (try simp [Nat.lt_of_succ_le hz, k3] at p3); have m0 := hb.cell (p := ⟨w2o.heap.size, 0, none⟩); (try simp at m0); have m1 := hb.cell (p := ⟨w2o.heap.size, 1, none⟩); (try simp at m1); have m2 := hb.frozen (p := ⟨w2o.heap.size, 0, none⟩); (try simp at m2); have m3 := hb.frozen (p := ⟨w2o.heap.size, 1, none⟩); (try simp at m3); have HB := Lib.hid hb; have HQ3 := Lib.hid (fun u v => E14.out _ ((HB9.out.setCell (p := ⟨w14.heap.size, 0, none⟩) (Nat.le_refl _) u).setCell (p := ⟨w14.heap.size, 1, none⟩) (Nat.le_refl _) v)); have HQ4 := Lib.hid (fun u v => E14.out _ ((HB9.out.setCell (p := ⟨w2o.heap.size, 0, none⟩) HBO.out.size u).setCell (p := ⟨w2o.heap.size, 1, none⟩) HBO.out.size v)); clear hb))
    all_goals
      go_wp2_with fail
      go_meet
      case rel => first | exact ⟨_, rfl, rfl, res_new _ HB9.out _ _⟩ | exact ⟨_, rfl, rfl, res_fill2 HBO.out HB.out _ _⟩ | exact ⟨_, rfl, rfl, res_fill (Below.then_ HBP.out HB.out) _ _⟩
  case rest =>
    obtain ⟨g17, rfl, rfl, hrb⟩ := hcut
    have HB15 := Lib.hid hrb.1
    have HBR := Lib.hid hrb.2.2
    clear hrb
    obtain ⟨w15, rfl⟩ : ∃ z : World, z = wc := ⟨_, rfl⟩
    have E15 := Lib.hid (fun W (hb : Below w15.heap.size w15 W) => E14.out W (Below.then_ HB15.out hb))
    have CO15 := Lib.hid (fun W (hb : Below w15.heap.size w15 W) => CO12.out W (Below.then_ HB15.out hb))
    have CR15 := Lib.hid (fun (A : Option Addr) (c : Nat) w2 (hb : Below w15.heap.size w15 w2) (hs : SlAt [] w2 A F) => CR12.out A c w2 (Below.then_ HB15.out hb) hs)
    clear CO11 CR11 CO12 CR12
    go_upto_region 12 with fail
    go_cut [19, 20] from 73 to 81 (fun a b w' => ∃ g, a = .pointer (some ⟨g, 0, none⟩) ∧ b = .int .i64 re ∧ ResBox w15 w' g 38 (.int .i64 rc) (.int .i64 rt))
    case first =>
      rename_i hK
      obtain ⟨y0, y1, y2, y3, y4⟩ := E15.out _ (below_drew _)
      go_region_held3 (fun w' => w'.cell? ⟨gx, 0, none⟩ = some (.int .i64 x.1) ∧ w'.cell? ⟨gx, 1, none⟩ = some (.slice A1 (Sc.kinds x).length c1) ∧ w'.cell? ⟨gx, 2, none⟩ = some (.slice A2 x.2.2.1.length c2) ∧ w'.cell? ⟨gx, 3, none⟩ = some (.slice A3 x.2.2.2.length c3) ∧ w'.cell? ⟨gw, 0, none⟩ = some (.slice Aw wl.length cw)) (first | exact E15.out _ (below_drew _) | exact E15.out _ (below_drew_alloc _ _) | exact E15.out _ (below_alloc_drew _ _) | exact E15.out _ HBO.out | exact HZ1.out _ | exact E15.out _ HB9.out | exact HQ1.out _ | exact HQ3.out _ _ | exact HQ4.out _ _) (first | (go_at_call 15; ((with_reducible refine (CO15.out _ (by first | exact below_drew _ | exact below_drew_alloc _ _ | exact below_alloc_drew _ _)).mono ?_)); rintro e w2o ⟨v2, rfl, hr2, hbo⟩; obtain ⟨Ao, co, rfl, _, _, hso⟩ := sl_of hr2; have HBO := Lib.hid (Below.then_ (a := w15) (by first | exact below_drew _ | exact below_drew_alloc _ _ | exact below_alloc_drew _ _) hbo); have HSO := Lib.hid hso; obtain ⟨z0, z1, z2, z3, z4⟩ := E15.out _ HBO.out; have HZ1 := Lib.hid (fun o => E15.out _ (Below.then_ HBO.out (below_alloc w2o o))); have k0 := hbo.cell (p := ⟨w15.heap.size, 0, none⟩); (try simp at k0); have k1 := hbo.cell (p := ⟨w15.heap.size, 1, none⟩); (try simp at k1); have k2 := hbo.frozen (p := ⟨w15.heap.size, 0, none⟩); (try simp at k2); have k3 := hbo.frozen (p := ⟨w15.heap.size, 1, none⟩); (try simp at k3); have hz := hbo.size; (try simp at hz); have HBP := Lib.hid hbo; clear hr2 hbo hso) | (go_at_call 14; ((with_reducible refine (CR15.out Ao co w2o HBO.out HSO.out _ (by first | exact Below.refl _ _ | exact below_alloc _ _)).mono ?_)); rintro e w9 ⟨rfl, hb⟩; have HB9 := Lib.hid (Below.then_ HBO.out (Below.then_ (by first | exact Below.refl _ _ | exact below_alloc _ _) hb)); obtain ⟨q0, q1, q2, q3, q4⟩ := E15.out _ HB9.out; have HQ1 := Lib.hid (fun o => E15.out _ (Below.then_ HB9.out (below_alloc w9 o))); have p0 := hb.cell (p := ⟨w15.heap.size, 0, none⟩); (try simp [Nat.lt_of_succ_le hz, k0] at p0); have p1 := hb.cell (p := ⟨w15.heap.size, 1, none⟩); (try simp [Nat.lt_of_succ_le hz, k1] at p1); have p2 := hb.frozen (p := ⟨w15.heap.size, 0, none⟩); (try simp [Nat.lt_of_succ_le hz, k2] at p2); have p3 := hb.frozen (p := ⟨w15.heap.size, 1, none⟩); (try simp [Nat.lt_of_succ_le hz, k3] at p3); have m0 := hb.cell (p := ⟨w2o.heap.size, 0, none⟩); (try simp at m0); have m1 := hb.cell (p := ⟨w2o.heap.size, 1, none⟩); (try simp at m1); have m2 := hb.frozen (p := ⟨w2o.heap.size, 0, none⟩); (try simp at m2); have m3 := hb.frozen (p := ⟨w2o.heap.size, 1, none⟩); (try simp at m3); have HB := Lib.hid hb; have HQ3 := Lib.hid (fun u v => E15.out _ ((HB9.out.setCell (p := ⟨w15.heap.size, 0, none⟩) (Nat.le_refl _) u).setCell (p := ⟨w15.heap.size, 1, none⟩) (Nat.le_refl _) v)); have HQ4 := Lib.hid (fun u v => E15.out _ ((HB9.out.setCell (p := ⟨w2o.heap.size, 0, none⟩) HBO.out.size u).setCell (p := ⟨w2o.heap.size, 1, none⟩) HBO.out.size v)); clear hb))
      all_goals
        go_wp2_with fail
        go_meet
        case rel => first | exact ⟨_, rfl, rfl, res_new _ HB9.out _ _⟩ | exact ⟨_, rfl, rfl, res_fill2 HBO.out HB.out _ _⟩ | exact ⟨_, rfl, rfl, res_fill (Below.then_ HBP.out HB.out) _ _⟩
    case rest =>
      obtain ⟨g19, rfl, rfl, hrb⟩ := hcut
      have HBF := Lib.hid (Below.then_ HB5.out (Below.then_ HB14.out (Below.then_ HB15.out hrb.1)))
      obtain ⟨r0, r1⟩ := cells2' (HBR.out.below hrb.1 HBR.out.lt)
      obtain ⟨s0, s1⟩ := cells2' hrb.2.2
      have HRE2 := HRE
      clear hrb HRE CO15 CR15 E14 E15
      rcases HRE2.out with rfl | ⟨rfl, rfl, rfl⟩
      · clear HRE2
        go_wp2_with (go_at_call 17; ((with_reducible refine (CL.out _).mono ?_)); rintro e w12 ⟨rfl, hb⟩; replace HBF := Lib.hid (Below.then_ HBF.out hb); clear hb)
        go_ret
        exact ⟨rfl, HBF.out⟩
      · clear HRE2
        go_wp2_with (go_at_call 17; ((with_reducible refine (CL.out _).mono ?_)); rintro e w12 ⟨rfl, hb⟩; replace HBF := Lib.hid (Below.then_ HBF.out hb); clear hb)
        go_ret
        exact ⟨rfl, HBF.out⟩
end Go.Proofs.YtdpcdocaahjeoaaDoor
