/- VmValid: the law's walk. -/
import Derived.Test.YtdpcdocaahjeoaaDoorW39
import Derived.Test.YtdpcdocaahjeoaaDoorW46
import Derived.Test.YtdpcdocaahjeoaaDoorW49
import Derived.Test.YtdpcdocaahjeoaaDoorW30
namespace Go.Proofs.YtdpcdocaahjeoaaDoor
open Go Go.RowKit
theorem Sg.Schema.bd {x : Sch} (h : Sg.Schema x) : 1 ≤ (Sc.kinds x).length ∧ (Sc.kinds x).length ≤ 3 ∧ ∀ kn ∈ Sc.kinds x, 1 ≤ (Sc.flds kn).length ∧ (Sc.flds kn).length ≤ 10 := by
  cases h with
  | mk ver ks lf i rs _ _ h1 h2 hk _ _ _ =>
    refine ⟨h1, h2, fun kn hkn => ?_⟩
    have := hk.ok h2 kn hkn
    exact ⟨this.len1, by rcases this.len with h | h <;> omega⟩
theorem repL_kept {α : Type} [Mem α] (a : α) : Kept (fun v w => Rep [] w a v) := fun _ _ _ h hb => Mem.keep h (Chg.of_below hb)
theorem bytes_rep {l : List UInt8} {w w' : World} {v : Value} (h : w'.ownsRow w.heap.size 5 1 v l.length (byteVals l)) : Rep [] w' l v := Rep.of_own h (flat_bytes l) (fun _ _ h => by cases h)
theorem tdiv7_in {n : Int} (h : inI n) : inI (n.tdiv 7) := tdiv_in n 7 h.1 h.2 (by omega)
set_option maxRecDepth 100000 in
set_option maxHeartbeats 16000000 in
theorem law_valid (l m : List Int) (A B : Option Addr) (c d : Nat) (at_ how by_ : Int) (w : World) (hl : SlAt [] w A l) (hm : SlAt [] w B m) (hc : l.length ≤ c) (hc2 : c ≤ 9223372036854775807) (hd : m.length ≤ d) (hd2 : d ≤ 9223372036854775807) (h1 : inI at_) (h2 : inI how) (h3 : inI by_) :
    Calls Tryd.prog 6 #[.slice A l.length c, .slice B m.length d, .int .i64 at_, .int .i64 how, .int .i64 by_] w fun e w' => e = .returned (.bool true) ∧ Below w.heap.size w w' := by
  have CS := Lib.hid (fun W (h : SlAt [] W A l) => gschema_any l A c W h hc hc2)
  have CP := Lib.hid (fun (x : Sch) (v : Value) W (hx : SchV x W v) (hk : Sg.Schema x) (h : SlAt [] W B m) => program_any x v m B d W hx h (by omega) hk.bd.1 (by have := hk.bd.2.1; omega) hk.bd.2.2)
  have CB1 := Lib.hid (fun (p : List Vm.Ins) (A : Option Addr) (c : Nat) W (h : SlAt [] W A p) (hp : p.length ≤ 1000) => bent_any p A c at_ how by_ W h hp h1 h2 h3)
  have e7 : wrap64 (how.tdiv 7) = how.tdiv 7 := by have := tdiv7_in h2; unfold inI at this; unfold wrap64; omega
  have h7 := tdiv7_in h2
  obtain ⟨hq, hhq⟩ : ∃ z, how.tdiv 7 = z := ⟨_, rfl⟩
  rw [hhq] at h7
  have CB2 := Lib.hid (fun (p : List Vm.Ins) (A : Option Addr) (c : Nat) W (h : SlAt [] W A p) (hp : p.length ≤ 1000) => bent_any p A c by_ hq at_ W h hp h3 h7 h1)
  have e8 : wrap64 (how.tdiv 7) = hq := e7.trans hhq
  clear e7 hhq h7
  have T0 := Lib.hid (((held0 w [] (fun _ h => by cases h)).add (keeps_sl B m) hm).add (keeps_sl A l) hl)
  obtain ⟨n1, hn1⟩ : ∃ n, l.length = n := ⟨_, rfl⟩
  obtain ⟨n2, hn2⟩ : ∃ n, m.length = n := ⟨_, rfl⟩
  rw [hn1] at CS
  rw [hn2] at CP
  rw [hn1, hn2]
  clear hl hm hc hc2 hd hd2 h1 h2 h3 hn1 hn2
  unfold SchemaP at CS
  unfold ProgP at CP
  unfold BentP at CB1 CB2
  go_enter Tryd.func6, Tryd.ntmps6
  go_upto_region 2 with (first | (go_at_call 9; refine (CS.out _ (T0.out.fact (.head _))).mono ?_; rintro e w1 ⟨x, v, rfl, hsx, hrx, hb⟩; have T1 := Lib.hid (T0.out.below hb); have HSX := Lib.hid hsx; have HRX := Lib.hid hrx; clear hsx hrx hb) | (go_at_call 11; refine (CP.out x v _ HRX.out HSX.out (T1.out.fact (.tail _ (.head _)))).mono ?_; rintro e w2 ⟨p, vp, rfl, hrp, hfp, hb⟩; have T2 := Lib.hid ((T1.out.below hb).add (keeps_rep1 p vp) hrp); have HFP := Lib.hid hfp; clear hrp hfp hb))
  have hpl := HFP.out.len
  obtain ⟨Ap, cp, rfl, _, _, hslp⟩ := sl_of (T2.out.fact (.head _))
  have HSP := Lib.hid hslp
  clear hslp
  go_upto_region 3 with (go_at_call 12; refine (CB1.out p _ _ _ HSP.out (by omega)).mono ?_; rintro e w3 ⟨q1, v1, rfl, hr1, hq1, hb, -⟩; have T3 := Lib.hid ((T2.out.below hb).add (keeps_rep1 q1 v1) hr1); clear hr1 hb)
  obtain ⟨A1, c1, rfl, _, _, hsl1⟩ := sl_of (T3.out.fact (.head _))
  have HS1 := Lib.hid hsl1
  have HL1 := Lib.hid (show q1.length ≤ 1000 by omega)
  clear hsl1
  go_upto_region 4 with (go_at_call 12; (try rw [e8]); ((with_reducible refine (CB2.out q1 _ _ _ HS1.out HL1.out).mono ?_)); rintro e w4 ⟨q2, v2, rfl, hr2, hq2, hb, -⟩; obtain ⟨A2, c2, rfl, hle2, hcm2, hsl2⟩ := sl_of hr2; have T4 := Lib.hid ((T3.out.below hb).add (keeps_rep1 q2 _) hr2); clear hr2 hb hsl2)
  have T5 := Lib.hid (T4.out.made #[.slice Ap p.length cp, .slice A1 q1.length c1, .slice A2 q2.length c2, .slice none 0 0] 32 rfl)
  generalize hW : w4.alloc _ = W5 at T5 ⊢
  generalize w4.heap.size = g5 at T5 ⊢
  clear hW
  have hblk := T5.out.blk (.head _)
  have hps : ∀ j, j < 4 → ∃ (q : List Vm.Ins) (B : Option Addr) (cq : Nat), W5.cell? ⟨g5, j, none⟩ = some (.slice B q.length cq) ∧ SlAt [] W5 B q ∧ q.length ≤ 1000 := by
    intro j hj
    have e2 := T5.out.fact (.tail _ (.head _))
    have e1 := T5.out.fact (.tail _ (.tail _ (.head _)))
    have e0 := T5.out.fact (.tail _ (.tail _ (.tail _ (.head _))))
    rcases (show j = 0 ∨ j = 1 ∨ j = 2 ∨ j = 3 by omega) with rfl | rfl | rfl | rfl
    · obtain ⟨A', c', h1, _, _, h4⟩ := sl_of e0
      injection h1 with h1 _ h2; subst h1
      exact ⟨p, Ap, cp, hblk.cell 0, h4, by omega⟩
    · obtain ⟨A', c', h1, _, _, h4⟩ := sl_of e1
      injection h1 with h1 _ h2; subst h1
      exact ⟨q1, A1, c1, hblk.cell 1, h4, by omega⟩
    · obtain ⟨A', c', h1, _, _, h4⟩ := sl_of e2
      injection h1 with h1 _ h2; subst h1
      exact ⟨q2, A2, c2, hblk.cell 2, h4, by omega⟩
    · exact ⟨[], none, 0, hblk.cell 3, SlAt.nil, by simp⟩
  have HPS := Lib.hid hps
  clear hps hblk
  go_wp2_with fail
  go_loopg [14] 4 (fun r i wr => ∃ j : Nat, j + r = 4 ∧ i = .int .i64 j ∧ Below W5.heap.size W5 wr)
  case atStart => exact ⟨0, by omega, rfl, Below.refl _ _⟩
  case round =>
    obtain ⟨j, hj, rfl, hbl⟩ := hrel
    obtain ⟨wo, rfl⟩ : ∃ wo : World, wo = wr := ⟨_, rfl⟩
    have HBL := Lib.hid hbl
    by_cases hlt : j < 4
    · have k1 : (j : Int) < 4 := by omega
      have k0 : (0 : Int) ≤ (j : Int) := by omega
      obtain ⟨q, Bq, cq, hcell, hslq, hlq⟩ := HPS.out j hlt
      have x0 := (hbl.cell (World.block_lt_of_cell? _ _ hcell)).trans hcell
      have HQ := Lib.hid (hslq.keep (Chg.of_below hbl))
      obtain ⟨nq, hnq⟩ : ∃ z, q.length = z := ⟨_, rfl⟩
      obtain ⟨vv, hvv⟩ : ∃ z, Vm.vld q = z := ⟨_, rfl⟩
      have CO := Lib.hid (fun W (h : SlAt [] W Bq q) => own_any q Bq cq W h (by omega))
      have CV := Lib.hid (fun A' c' W (h : SlAt [] W A' q) => valid_any q A' c' W h (by omega))
      have CRV := Lib.hid (fun W (h : SlAt [] W Bq q) => rValid_any q Bq cq W h (by omega))
      have CE := Lib.hid (fun A' c' W (h : SlAt [] W A' q) => encode_any q A' c' W h (by omega))
      have CRE := Lib.hid (fun W (h : SlAt [] W Bq q) => rEncode_any q Bq cq W h (by omega))
      unfold CopyP at CO
      unfold BytesP at CE CRE
      rw [hnq] at CO CV CRV CE CRE x0
      rw [hvv] at CV CRV
      have HNQ := Lib.hid hnq
      have e0 : (vv != vv) = false := by simp
      clear hcell hslq hbl hvv hnq
      go_wp2_with fail
      apply wp_region_typed (C := fun w' => Below wo.heap.size wo w') (n := 71) (m := 27) (l1 := [_, _, _, _, _, _, _, _, _, _, _, _, _, _, _, _, _, _, _, _, _, _, _, _, _, _, _]) (l2 := [])
      · rfl
      · rfl
      · kernel_rfl
      · rfl
      · kernel_rfl
      · exact ⟨rfl, rfl, rfl, Nat.le_refl _, fun _ _ => rfl⟩
      · exact fun u u' h hb => (by first | exact h.below hb | exact h.trans (hb.mono h.size))
      iterate 4 ((apply wpT_exact; · (intro w' hC hf; unfold Gives; have q8 := (hC.cell (World.block_lt_of_cell? _ _ x0)).trans x0; clear hf hC; go_wp2_with (fail); apply postT_val rfl (Below.refl _ _); simp only [valAt, Array.getD_eq_getD_getElem?, List.getElem?_toArray, List.getElem?_cons_succ, List.getElem?_cons_zero, Option.getD_some]; exact rfl)); (try simp only [Act.put, List.setIfInBounds_toArray, List.set_cons_zero, List.set_cons_succ]))
      apply wpT_typed (repL_kept q)
      · intro w' hC hf; unfold Gives; clear hf
        have HS5 := Lib.hid (HQ.out.keep (Chg.of_below hC)); clear hC
        go_wp2_with (go_at_call 15; ((with_reducible refine (CO.out _ HS5.out).mono ?_)); rintro e w6 ⟨v, rfl, hr, hb⟩)
        refine postT_mk rfl hb ?_; simp only [valAt, Array.getD_eq_getD_getElem?, List.getElem?_toArray, List.getElem?_cons_succ, List.getElem?_cons_zero, Option.getD_some]; exact hr
      intro v41; (try simp only [Act.put, List.setIfInBounds_toArray, List.set_cons_zero, List.set_cons_succ])
      apply wpT_exact (c := .int .i64 vv)
      · intro w' hC hf; unfold Gives
        obtain ⟨A', c', rfl, _, _, hsl⟩ := sl_of (hf.1 rfl)
        have HS6 := Lib.hid hsl
        rw [HNQ.out]
        clear hf hC hsl
        go_wp2_with (go_at_call 18; ((with_reducible refine (CV.out _ _ _ HS6.out).mono ?_)); rintro e w6 ⟨rfl, hb⟩)
        apply postT_val rfl hb; simp only [valAt, Array.getD_eq_getD_getElem?, List.getElem?_toArray, List.getElem?_cons_succ, List.getElem?_cons_zero, Option.getD_some]
      (try simp only [Act.put, List.setIfInBounds_toArray, List.set_cons_zero, List.set_cons_succ])
      iterate 4 ((apply wpT_exact; · (intro w' hC hf; unfold Gives; have q8 := (hC.cell (World.block_lt_of_cell? _ _ x0)).trans x0; clear hf hC; go_wp2_with (fail); apply postT_val rfl (Below.refl _ _); simp only [valAt, Array.getD_eq_getD_getElem?, List.getElem?_toArray, List.getElem?_cons_succ, List.getElem?_cons_zero, Option.getD_some]; exact rfl)); (try simp only [Act.put, List.setIfInBounds_toArray, List.set_cons_zero, List.set_cons_succ]))
      apply wpT_exact (c := .int .i64 vv)
      · intro w' hC hf; unfold Gives; clear hf
        have HS5 := Lib.hid (HQ.out.keep (Chg.of_below hC)); clear hC
        go_wp2_with (go_at_call 19; ((with_reducible refine (CRV.out _ HS5.out).mono ?_)); rintro e w6 ⟨rfl, hb⟩)
        apply postT_val rfl hb; simp only [valAt, Array.getD_eq_getD_getElem?, List.getElem?_toArray, List.getElem?_cons_succ, List.getElem?_cons_zero, Option.getD_some]
      (try simp only [Act.put, List.setIfInBounds_toArray, List.set_cons_zero, List.set_cons_succ])
      (apply wpT_exact; · (intro w' hC hf; unfold Gives; clear hf hC; go_wp2_with (fail); apply postT_val rfl (Below.refl _ _); simp only [valAt, Array.getD_eq_getD_getElem?, List.getElem?_toArray, List.getElem?_cons_succ, List.getElem?_cons_zero, Option.getD_some]; exact rfl)); (try simp only [Act.put, List.setIfInBounds_toArray, List.set_cons_zero, List.set_cons_succ])
      (apply wpT_exact; · (intro w' hC hf; unfold Gives; clear hf hC; go_wp2_with (fail); apply postT_val rfl (Below.refl _ _); simp only [valAt, Array.getD_eq_getD_getElem?, List.getElem?_toArray, List.getElem?_cons_succ, List.getElem?_cons_zero, Option.getD_some]; exact rfl)); (try simp only [Act.put, List.setIfInBounds_toArray, List.set_cons_zero, List.set_cons_succ])
      iterate 4 ((apply wpT_exact; · (intro w' hC hf; unfold Gives; have q8 := (hC.cell (World.block_lt_of_cell? _ _ x0)).trans x0; clear hf hC; go_wp2_with (fail); apply postT_val rfl (Below.refl _ _); simp only [valAt, Array.getD_eq_getD_getElem?, List.getElem?_toArray, List.getElem?_cons_succ, List.getElem?_cons_zero, Option.getD_some]; exact rfl)); (try simp only [Act.put, List.setIfInBounds_toArray, List.set_cons_zero, List.set_cons_succ]))
      apply wpT_typed (repL_kept q)
      · intro w' hC hf; unfold Gives; clear hf
        have HS5 := Lib.hid (HQ.out.keep (Chg.of_below hC)); clear hC
        go_wp2_with (go_at_call 15; ((with_reducible refine (CO.out _ HS5.out).mono ?_)); rintro e w6 ⟨v, rfl, hr, hb⟩)
        refine postT_mk rfl hb ?_; simp only [valAt, Array.getD_eq_getD_getElem?, List.getElem?_toArray, List.getElem?_cons_succ, List.getElem?_cons_zero, Option.getD_some]; exact hr
      intro v54; (try simp only [Act.put, List.setIfInBounds_toArray, List.set_cons_zero, List.set_cons_succ])
      apply wpT_typed (repL_kept (encP q))
      · intro w' hC hf; unfold Gives
        obtain ⟨A', c', rfl, _, _, hsl⟩ := sl_of (hf.1 rfl)
        have HS6 := Lib.hid hsl
        rw [HNQ.out]
        clear hf hC hsl
        go_wp2_with (go_at_call 21; ((with_reducible refine (CE.out _ _ _ HS6.out).mono ?_)); rintro e w6 ⟨v, rfl, hr, hb⟩)
        refine postT_mk rfl hb ?_; simp only [valAt, Array.getD_eq_getD_getElem?, List.getElem?_toArray, List.getElem?_cons_succ, List.getElem?_cons_zero, Option.getD_some]; exact bytes_rep hr
      intro v55; (try simp only [Act.put, List.setIfInBounds_toArray, List.set_cons_zero, List.set_cons_succ])
      iterate 4 ((apply wpT_exact; · (intro w' hC hf; unfold Gives; have q8 := (hC.cell (World.block_lt_of_cell? _ _ x0)).trans x0; clear hf hC; go_wp2_with (fail); apply postT_val rfl (Below.refl _ _); simp only [valAt, Array.getD_eq_getD_getElem?, List.getElem?_toArray, List.getElem?_cons_succ, List.getElem?_cons_zero, Option.getD_some]; exact rfl)); (try simp only [Act.put, List.setIfInBounds_toArray, List.set_cons_zero, List.set_cons_succ]))
      apply wpT_typed (repL_kept (encP q))
      · intro w' hC hf; unfold Gives; clear hf
        have HS5 := Lib.hid (HQ.out.keep (Chg.of_below hC)); clear hC
        go_wp2_with (go_at_call 22; ((with_reducible refine (CRE.out _ HS5.out).mono ?_)); rintro e w6 ⟨v, rfl, hr, hb⟩)
        refine postT_mk rfl hb ?_; simp only [valAt, Array.getD_eq_getD_getElem?, List.getElem?_toArray, List.getElem?_cons_succ, List.getElem?_cons_zero, Option.getD_some]; exact bytes_rep hr
      intro v60; (try simp only [Act.put, List.setIfInBounds_toArray, List.set_cons_zero, List.set_cons_succ])
      apply wpT_exact (c := .bool true)
      · intro w' hC hf; unfold Gives
        obtain ⟨A', c', rfl, hle', hcm', hsl⟩ := sl_of (hf.1 rfl)
        obtain ⟨B', d', rfl, _, _, hsl'⟩ := sl_of (hf.2.1 rfl)
        have hS := same_any (encP q) (encP q) _ _ d' c' w' hsl' hsl (by omega) (by omega)
        rw [decide_eq_true rfl] at hS
        have HSA := Lib.hid hS
        clear hf hC hsl hsl' hS
        go_wp2_with (go_at_call 20; ((with_reducible refine (HSA.out).mono ?_)); rintro e w6 ⟨rfl, hb⟩)
        apply postT_val rfl hb; simp only [valAt, Array.getD_eq_getD_getElem?, List.getElem?_toArray, List.getElem?_cons_succ, List.getElem?_cons_zero, Option.getD_some]
      (try simp only [Act.put, List.setIfInBounds_toArray, List.set_cons_zero, List.set_cons_succ])
      (apply wpT_exact; · (intro w' hC hf; unfold Gives; clear hf hC; go_wp2_with (fail); apply postT_val rfl (Below.refl _ _); simp only [valAt, Array.getD_eq_getD_getElem?, List.getElem?_toArray, List.getElem?_cons_succ, List.getElem?_cons_zero, Option.getD_some]; exact rfl)); (try simp only [Act.put, List.setIfInBounds_toArray, List.set_cons_zero, List.set_cons_succ])
      (apply wpT_exact; · (intro w' hC hf; unfold Gives; clear hf hC; go_wp2_with (fail); apply postT_val rfl (Below.refl _ _); simp only [valAt, Array.getD_eq_getD_getElem?, List.getElem?_toArray, List.getElem?_cons_succ, List.getElem?_cons_zero, Option.getD_some]; exact rfl)); (try simp only [Act.put, List.setIfInBounds_toArray, List.set_cons_zero, List.set_cons_succ])
      apply wpT_done
      intro w4' hC hall
      have HB6 := Lib.hid (HBL.out.trans (hC.mono HBL.out.size))
      clear hC hall
      go_wp2_with fail
      go_roundg (gk - 1)
      case measure => omega
      case rel => exact ⟨j + 1, by omega, by go_num, HB6.out⟩
    · obtain rfl : j = 4 := by omega
      have HSP5 := Lib.hid (show SlAt [] wo Ap p from by
        obtain ⟨A', c', h1, _, _, h4⟩ := sl_of (T5.out.fact (.tail _ (.tail _ (.tail _ (.head _)))))
        injection h1 with h1 _ _; subst h1
        exact h4.keep (Chg.of_below HBL.out))
      have HB7 := Lib.hid (T5.out.bl.trans (HBL.out.mono T5.out.bl.size))
      have CO := Lib.hid (fun W (h : SlAt [] W Ap p) => own_any p Ap cp W h (by omega))
      have CV := Lib.hid (fun A' c' W (h : SlAt [] W A' p) => valid_any p A' c' W h (by omega))
      unfold CopyP at CO
      rw [HFP.out.vld (by omega)] at CV
      have CL := Lib.hid lives_any
      clear T5 T4 T3 T2 T1 T0 HRX
      go_wp2_with (first | (go_at_call 15; ((with_reducible refine (CO.out _ HSP5.out).mono ?_)); rintro e w6 ⟨v6, rfl, hr, hb⟩; obtain ⟨A', c', rfl, _, _, hsl⟩ := sl_of hr; have HS6 := Lib.hid hsl; replace HB7 := Lib.hid (HB7.out.trans (hb.mono HB7.out.size)); clear hr hb hsl) | (go_at_call 18; ((with_reducible refine (CV.out _ _ _ HS6.out).mono ?_)); rintro e w7 ⟨rfl, hb⟩; replace HB7 := Lib.hid (HB7.out.trans (hb.mono HB7.out.size)); clear hb) | (go_at_call 17; ((with_reducible refine (CL.out _).mono ?_)); rintro e w8 ⟨rfl, hb⟩; replace HB7 := Lib.hid (HB7.out.trans (hb.mono HB7.out.size)); clear hb))
      go_ret
      exact ⟨rfl, HB7.out⟩
end Go.Proofs.YtdpcdocaahjeoaaDoor
