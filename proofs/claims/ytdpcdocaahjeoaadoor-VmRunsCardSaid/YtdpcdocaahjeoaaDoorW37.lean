/- Maker.rule. -/
import Derived.Test.YtdpcdocaahjeoaaDoorW36
namespace Go.Proofs.YtdpcdocaahjeoaaDoor
open Go Go.RowKit
namespace Sg
def bmost : ByteArray := ⟨#[109, 111, 115, 116]⟩
def bleast : ByteArray := ⟨#[108, 101, 97, 115, 116]⟩
/-- What rule gives for a kind. -/
inductive Rule (k : Knd) : Rul → Bool → Prop
  | none : Sc.ix (Sc.named bsz) (Sc.flds k) < 0 → Rule k (be, be, be, be, 0) false
  | low (z : Int) : 0 ≤ Sc.ix (Sc.named blow) (Sc.flds k) → 0 ≤ z → z ≤ 7 → Rule k (border ++ k.1.extract 0 1, k.1, blow, bhigh, z - 2) true
  | most (i : Nat) (h : i < (Sc.flds k).length) (z : Int) : Sc.ix (Sc.named bsz) (Sc.flds k) = i → 0 ≤ z → z ≤ 11 → Rule k (bmost ++ k.1.extract 0 1, k.1, bsz, be, Sc.lo (Sc.flds k)[i] + z) true
  | least (i : Nat) (h : i < (Sc.flds k).length) (z : Int) : Sc.ix (Sc.named bsz) (Sc.flds k) = i → 0 ≤ z → z ≤ 11 → Rule k (bleast ++ k.1.extract 0 1, k.1, be, bsz, z - Sc.hi (Sc.flds k)[i]) true
end Sg
def rulCells (r : Rul) : Array Value := #[.string r.1, .string r.2.1, .string r.2.2.1, .string r.2.2.2.1, .int .i64 r.2.2.2.2]
/-- What a call of rule leaves. -/
def RuleP (K : MkK) (bx : List Box) (rs : List Rw) (L : List (List Nat → World → Prop)) (k : Knd) (e : Ending) (w' : World) : Prop :=
  ∃ r b M', e = .returned (.tuple #[.agg (rulCells r), .bool b]) ∧ Sg.Rule k r b ∧ MkH K M' bx rs L w'
set_option maxRecDepth 100000 in
set_option maxHeartbeats 100000000 in
theorem grule_any {K : MkK} {M : List Nat} {bx : List Box} {rs : List Rw} {L : List (List Nat → World → Prop)} {W : World} {k : Knd} {A : Option Addr} {c : Nat} (h : MkH K M bx rs L W) (hs : SlAt M W A (Sc.flds k)) (hm : (Sc.flds k).length ≤ 20) (hn1 : 1 ≤ k.1.size) (hn2 : k.1.size ≤ 20) (hbd : ∀ f ∈ Sc.flds k, -1000 ≤ Sc.lo f ∧ Sc.lo f ≤ 1000 ∧ -1000 ≤ Sc.hi f ∧ Sc.hi f ≤ 1000) :
    Calls Tryd.prog 34 #[K.p, .agg #[.string k.1, .int .i64 k.2.1, .int .i64 k.2.2.1, .slice A (Sc.flds k).length c]] W (RuleP K bx rs L k) := by
  obtain ⟨nm, hnm⟩ : ∃ s, k.1 = s := ⟨_, rfl⟩
  obtain ⟨n, hn⟩ : ∃ m, (Sc.flds k).length = m := ⟨_, rfl⟩
  obtain ⟨lo, hlo⟩ : ∃ i, k.2.1 = i := ⟨_, rfl⟩
  obtain ⟨hi, hhi⟩ : ∃ i, k.2.2.1 = i := ⟨_, rfl⟩
  rw [hnm, hn, hlo, hhi]
  have h0 := (h.add (keeps_sl A (Sc.flds k)) hs)
  have h1 := ((h0.new #[.string nm, .int .i64 lo, .int .i64 hi, .slice A n c] 56 rfl).new (N := W.heap.size + 1) #[.string ⟨#[]⟩, .string ⟨#[]⟩, .string ⟨#[]⟩, .string ⟨#[]⟩, .int .i64 0] 91 (by simp))
  obtain ⟨W0, hW0⟩ : ∃ X, (W.alloc (.cells #[.string nm, .int .i64 lo, .int .i64 hi, .slice A n c] 56)).alloc (.cells #[.string ⟨#[]⟩, .string ⟨#[]⟩, .string ⟨#[]⟩, .string ⟨#[]⟩, .int .i64 0] 91) = X := ⟨_, rfl⟩
  rw [hW0] at h1
  have hs0 := h1.fact (.head _)
  have H := Lib.hid h1
  have q := h1.box (.tail _ (.head _)); have q3 := q.cell 3; (simp at q3); clear q h1
  have CL0 := fun w' (hb : Below W0.heap.size W0 w') => has_any (Sc.flds k) A c Sg.blow w' (hs0.keep (Chg.of_below hb)) (by omega)
  have CS0 := fun w' (hb : Below W0.heap.size W0 w') => has_any (Sc.flds k) A c Sg.bsz w' (hs0.keep (Chg.of_below hb)) (by omega)
  rw [hn] at CL0 CS0
  obtain ⟨il, hil⟩ : ∃ i, Sc.ix (Sc.named Sg.blow) (Sc.flds k) = i := ⟨_, rfl⟩
  obtain ⟨is, his⟩ : ∃ i, Sc.ix (Sc.named Sg.bsz) (Sc.flds k) = i := ⟨_, rfl⟩
  rw [hil] at CL0
  rw [his] at CS0
  have CL := Lib.hid CL0; have CS := Lib.hid CS0; have HIL := Lib.hid hil; have HIS := Lib.hid his; have HBD := Lib.hid hbd; have HN := Lib.hid hn; have HNM := Lib.hid hnm
  rw [hnm] at hn1 hn2
  rw [hn] at hm
  clear hs0 CL0 CS0 hil his hbd hn hnm h0 h hs hlo hhi
  go_enter Tryd.func34, Tryd.ntmps34
  go_wp2_with fail
  generalize W.heap.size + 1 = rb at H ⊢
  generalize W.heap.size = kb at H ⊢
  clear hW0
  go_at_call 65
  refine (CL.out _ (Below.refl _ _)).mono ?_
  rintro e w3 ⟨rfl, hb⟩
  replace H := Lib.hid (H.out.below hb)
  have HB3 := Lib.hid hb
  clear hb q3
  have q := H.out.box (.tail _ (.head _)); have q3 := q.cell 3; (simp at q3); clear q
  go_wp2_with fail
  go_at_call 65
  refine (CS.out _ HB3.out).mono ?_
  rintro e w4 ⟨rfl, hb⟩
  replace H := Lib.hid (H.out.below hb)
  clear hb
  go_upto_region 3 with fail
  go_cut [21] from 9 (fun v21 w' => ∃ b : Bool, v21 = .bool b ∧ (b = true → 0 ≤ il) ∧ ∃ M, MkH K M ((rb, 91, #[.string ⟨#[]⟩, .string ⟨#[]⟩, .string ⟨#[]⟩, .string ⟨#[]⟩, .int .i64 0]) :: (kb, 56, #[.string nm, .int .i64 lo, .int .i64 hi, .slice A n c]) :: bx) rs ((fun M W => SlAt M W A (Sc.flds k)) :: L) w')
  case first =>
    clear CL CS HB3
    by_cases hl0 : 0 ≤ il
    · go_wp2_with (go_at_call 32; refine (H.out.take 3 (by omega) (by omega)).mono ?_; rintro e w5 ⟨v, rfl, v1, v2, hr⟩; replace H := Lib.hid (H.out.turn hr); clear hr)
      go_meet
      case rel => exact ⟨_, rfl, fun _ => hl0, _, H.out⟩
    · have t1 : decide (0 ≤ il) = false := decide_eq_false hl0
      go_wp2_with fail
      go_meet
      case rel => exact ⟨_, rfl, fun h => (by cases h), _, H.out⟩
  case rest =>
    obtain ⟨b, rfl, hb, M2, HS⟩ := hcut
    clear H CL CS HB3
    have H := Lib.hid HS
    clear HS
    have hlen : (1 : Int) ≤ ((nm.size : Nat) : Int) := by omega
    cases b
    · clear hb
      by_cases hs0 : is < 0
      · have HB := Lib.hid (show Sc.ix (Sc.named Sg.bsz) (Sc.flds k) < 0 by rw [HIS.out]; exact hs0)
        have t1 : decide (is < 0) = true := decide_eq_true hs0
        go_upto_region 6 with fail
        go_cut [5] from 6 (fun v5 w' => v5 = .bool false ∧ ∃ r, Sg.Rule k r false ∧ ∃ M, MkH K M ((rb, 91, rulCells r) :: (kb, 56, #[.string nm, .int .i64 lo, .int .i64 hi, .slice A n c]) :: bx) rs ((fun M W => SlAt M W A (Sc.flds k)) :: L) w')
        case first =>
          have q := H.out.box (.head _); have f0 := q.frozen 0; have f1 := q.frozen 1; have f2 := q.frozen 2; have f3 := q.frozen 3; have f4 := q.frozen 4; have q0 := q.cell 0; have q1 := q.cell 1; have q2 := q.cell 2; have q3 := q.cell 3; have q4 := q.cell 4; (simp at q0 q1 q2 q3 q4); clear q
          go_wp2_with fail
          go_meet
          case rel => exact ⟨rfl, (Sg.be, Sg.be, Sg.be, Sg.be, 0), .none HB.out, _, ((((H.out.set0 0 _).set0 1 _).set0 2 _).set0 3 _).set0 4 _⟩
        case rest =>
          obtain ⟨rfl, r, hr, M9, H9⟩ := hcut
          have q := H9.box (.head _); have q0 := q.cell 0; have q1 := q.cell 1; have q2 := q.cell 2; have q3 := q.cell 3; have q4 := q.cell 4; (simp [rulCells] at q0 q1 q2 q3 q4); clear q
          have H8 := Lib.hid H9.unbox.unbox.tail
          have HR := Lib.hid hr
          clear H9 hr
          rename_i hK
          apply hK
          refine wp_ret ?_
          (try simp only [Exit.then])
          refine bodyPost_ret (v := .tuple #[.agg (rulCells r), .bool false]) ?_ rfl ?_
          · simp [results, Tryd.results34, go_sem, q0, q1, q2, q3, q4, rulCells]
            try rfl
          · exact ⟨r, false, M9, rfl, HR.out, H8.out⟩
      · have t1 : decide (is < 0) = false := decide_eq_false hs0
        obtain ⟨i, hi', hie, _⟩ := Sc.ix_get (p := Sc.named Sg.bsz) (l := Sc.flds k) (by rw [HIS.out]; omega)
        have HIE := Lib.hid hie
        rw [HIS.out] at hie
        subst hie
        have hin : i < n := by rw [← HN.out]; exact hi'
        have k2 : (i : Int) < (n : Int) := by omega
        have hbd := HBD.out _ (List.getElem_mem hi')
        obtain ⟨b1, o1, B, cB, C, cC, rfl, _, g0, g1, g2, g3, g4, g5, g6, g7, _⟩ := fld_at (H.out.fact (.head _)) i hi'
        obtain ⟨f, hf⟩ : ∃ f, (Sc.flds k)[i] = f := ⟨_, rfl⟩
        rw [hf] at g0 g1 g2 g3 g4 g5 g6 g7 hbd
        have HF := Lib.hid hf
        obtain ⟨flo, hflo⟩ : ∃ x, Sc.lo f = x := ⟨_, rfl⟩
        obtain ⟨fhi, hfhi⟩ : ∃ x, Sc.hi f = x := ⟨_, rfl⟩
        rw [hflo] at g4 hbd
        rw [hfhi] at g5 hbd
        obtain ⟨d1, d2, d3, d4⟩ := hbd
        have H2 := Lib.hid (H.out.new #[.string (Sc.nm f), .string (Sc.of_ f), .string (Sc.up f), .int .i64 (Sc.kd f), .int .i64 flo, .int .i64 fhi, .slice B (Sc.words f).length cB, .slice C (Sc.wts f).length cC] 96 rfl)
        have q := H.out.box (.tail _ (.head _)); have y3 := q.cell 3; (simp at y3); clear q
        have HFL := Lib.hid hflo
        have HFH := Lib.hid hfhi
        clear H hf hflo hfhi hs0
        generalize Sc.nm f = z0 at *
        generalize Sc.of_ f = z1 at *
        generalize Sc.up f = z2 at *
        generalize Sc.kd f = z3 at *
        generalize (Sc.words f).length = z6 at *
        generalize (Sc.wts f).length = z7 at *
        go_upto_region 8 with fail
        generalize hW9 : wc.alloc _ = W9 at H2 ⊢
        generalize wc.heap.size = fb at H2 ⊢
        clear g0 g1 g2 g3 g4 g5 g6 g7 y3 hW9
        have H := H2
        clear H2
        go_wp2_with fail
        go_at_call 32
        refine (H.out.take 2 (by omega) (by omega)).mono ?_
        rintro e w5 ⟨v, rfl, v1, v2, hr⟩
        replace H := Lib.hid (H.out.turn hr); clear hr
        by_cases hv : v = 0
        · subst hv
          go_upto_region 9 with fail
          go_cut [5] from 6 (fun v5 w' => v5 = .bool true ∧ ∃ r, Sg.Rule k r true ∧ ∃ M, MkH K M ((rb, 91, rulCells r) :: (kb, 56, #[.string nm, .int .i64 lo, .int .i64 hi, .slice (some ⟨b1, o1, none⟩) n c]) :: bx) rs ((fun M W => SlAt M W (some ⟨b1, o1, none⟩) (Sc.flds k)) :: L) w')
          case first =>
            obtain ⟨wo, rfl⟩ : ∃ wo : World, wo = w5 := ⟨_, rfl⟩
            letI : Grow := K.grow
            apply RG.wp_region_typed (C := fun w' => K.R wo w') (n := 67) (m := 12) (l1 := [_, _, _, _, _, _, _, _, _, _, _, _]) (l2 := [_, _])
            · rfl
            · rfl
            · kernel_rfl
            · rfl
            · kernel_rfl
            · exact K.drew wo
            · exact fun u u' h hb => h.trans hb
            (apply RG.wpT_exact; · (intro w' hC hf; unfold RG.Gives; clear hf hC; go_wp2_with (fail); apply RG.postT_val rfl (Grow.refl _); simp only [RG.valAt, Array.getD_eq_getD_getElem?, List.getElem?_toArray, List.getElem?_cons_succ, List.getElem?_cons_zero, Option.getD_some]; exact rfl)); (try simp only [Act.put, List.setIfInBounds_toArray, List.set_cons_zero, List.set_cons_succ])
            (apply RG.wpT_exact; · (intro w' hC hf; unfold RG.Gives; have q := (H.out.turn hC).box (.tail _ (.tail _ (.head _))); have q0 := q.cell 0; (simp at q0); clear q; clear hf hC; go_wp2_with (fail); apply RG.postT_val rfl (Grow.refl _); simp only [RG.valAt, Array.getD_eq_getD_getElem?, List.getElem?_toArray, List.getElem?_cons_succ, List.getElem?_cons_zero, Option.getD_some]; exact rfl)); (try simp only [Act.put, List.setIfInBounds_toArray, List.set_cons_zero, List.set_cons_succ])
            (apply RG.wpT_exact; · (intro w' hC hf; unfold RG.Gives; clear hf hC; go_wp2_with (fail); apply RG.postT_val rfl (Grow.refl _); simp only [RG.valAt, Array.getD_eq_getD_getElem?, List.getElem?_toArray, List.getElem?_cons_succ, List.getElem?_cons_zero, Option.getD_some]; exact rfl)); (try simp only [Act.put, List.setIfInBounds_toArray, List.set_cons_zero, List.set_cons_succ])
            (apply RG.wpT_exact; · (intro w' hC hf; unfold RG.Gives; clear hf hC; go_wp2_with (fail); apply RG.postT_val rfl (Grow.refl _); simp only [RG.valAt, Array.getD_eq_getD_getElem?, List.getElem?_toArray, List.getElem?_cons_succ, List.getElem?_cons_zero, Option.getD_some]; exact rfl)); (try simp only [Act.put, List.setIfInBounds_toArray, List.set_cons_zero, List.set_cons_succ])
            (apply RG.wpT_exact; · (intro w' hC hf; unfold RG.Gives; clear hf hC; go_wp2_with (fail); apply RG.postT_val rfl (Grow.refl _); simp only [RG.valAt, Array.getD_eq_getD_getElem?, List.getElem?_toArray, List.getElem?_cons_succ, List.getElem?_cons_zero, Option.getD_some]; exact rfl)); (try simp only [Act.put, List.setIfInBounds_toArray, List.set_cons_zero, List.set_cons_succ])
            (apply RG.wpT_exact; · (intro w' hC hf; unfold RG.Gives; have q := (H.out.turn hC).box (.tail _ (.tail _ (.head _))); have q0 := q.cell 0; (simp at q0); clear q; clear hf hC; go_wp2_with (fail); apply RG.postT_val rfl (Grow.refl _); simp only [RG.valAt, Array.getD_eq_getD_getElem?, List.getElem?_toArray, List.getElem?_cons_succ, List.getElem?_cons_zero, Option.getD_some]; exact rfl)); (try simp only [Act.put, List.setIfInBounds_toArray, List.set_cons_zero, List.set_cons_succ])
            (apply RG.wpT_exact; · (intro w' hC hf; unfold RG.Gives; clear hf hC; go_wp2_with (fail); apply RG.postT_val rfl (Grow.refl _); simp only [RG.valAt, Array.getD_eq_getD_getElem?, List.getElem?_toArray, List.getElem?_cons_succ, List.getElem?_cons_zero, Option.getD_some]; exact rfl)); (try simp only [Act.put, List.setIfInBounds_toArray, List.set_cons_zero, List.set_cons_succ])
            (apply RG.wpT_exact; · (intro w' hC hf; unfold RG.Gives; have q := (H.out.turn hC).box (.head _); have q4 := q.cell 4; (simp at q4); clear q; clear hf hC; go_wp2_with (fail); apply RG.postT_val rfl (Grow.refl _); simp only [RG.valAt, Array.getD_eq_getD_getElem?, List.getElem?_toArray, List.getElem?_cons_succ, List.getElem?_cons_zero, Option.getD_some]; exact rfl)); (try simp only [Act.put, List.setIfInBounds_toArray, List.set_cons_zero, List.set_cons_succ])
            (apply RG.wpT_exact; · (intro w' hC hf; unfold RG.Gives; clear hf hC; go_wp2_with (fail); apply RG.postT_val rfl (Grow.refl _); simp only [RG.valAt, Array.getD_eq_getD_getElem?, List.getElem?_toArray, List.getElem?_cons_succ, List.getElem?_cons_zero, Option.getD_some]; exact rfl)); (try simp only [Act.put, List.setIfInBounds_toArray, List.set_cons_zero, List.set_cons_succ])
            apply RG.wpT_typed (T := fun v _ => ∃ z : Nat, v = .int .i64 (z : Int) ∧ z < 12) (fun v w w' h _ => h)
            · intro w' hC hf; unfold RG.Gives; clear hf
              go_wp2_with fail
              go_at_call 32
              refine ((H.out.turn hC).take 12 (by omega) (by omega)).mono ?_
              rintro e w3 ⟨v, rfl, v1, v2, hr⟩
              obtain ⟨z, rfl⟩ : ∃ z' : Nat, v = z' := ⟨v.toNat, by omega⟩
              go_wp2_with fail
              refine RG.postT_mk rfl hr ?_; simp only [RG.valAt, Array.getD_eq_getD_getElem?, List.getElem?_toArray, List.getElem?_cons_succ, List.getElem?_cons_zero, Option.getD_some]; exact ⟨z, rfl, by omega⟩
            intro v52; (try simp only [Act.put, List.setIfInBounds_toArray, List.set_cons_zero, List.set_cons_succ])
            apply RG.wpT_typed (T := fun v _ => ∃ z : Nat, v = .int .i64 (flo + (z : Int)) ∧ z < 12) (fun v w w' h _ => h)
            · intro w' hC hf; unfold RG.Gives; obtain ⟨z, rfl, z1⟩ := hf.1 rfl; clear hf hC
              go_wp2_with fail
              refine RG.postT_mk rfl (Grow.refl _) ?_; simp only [RG.valAt, Array.getD_eq_getD_getElem?, List.getElem?_toArray, List.getElem?_cons_succ, List.getElem?_cons_zero, Option.getD_some]; exact ⟨z, rfl, z1⟩
            intro v53; (try simp only [Act.put, List.setIfInBounds_toArray, List.set_cons_zero, List.set_cons_succ])
            apply RG.wpT_typed (T := fun v _ => ∃ z : Nat, v = .agg #[.string (Sg.bmost ++ nm.extract 0 1), .string nm, .string Sg.bsz, .string Sg.be, .int .i64 (flo + (z : Int))] ∧ z < 12) (fun v w w' h _ => h)
            · intro w' hC hf; unfold RG.Gives; obtain ⟨z, rfl, z1⟩ := hf.1 rfl; clear hf hC
              go_wp2_with fail
              refine RG.postT_mk rfl (Grow.refl _) ?_; simp only [RG.valAt, Array.getD_eq_getD_getElem?, List.getElem?_toArray, List.getElem?_cons_succ, List.getElem?_cons_zero, Option.getD_some]; exact ⟨z, rfl, z1⟩
            intro v54; (try simp only [Act.put, List.setIfInBounds_toArray, List.set_cons_zero, List.set_cons_succ])
            apply RG.wpT_done
            intro w4 hC hall
            obtain ⟨z, rfl, z1⟩ := hall.1
            have T := Lib.hid (H.out.turn hC)
            have q := T.out.box (.tail _ (.head _)); have f0 := q.frozen 0; have f1 := q.frozen 1; have f2 := q.frozen 2; have f3 := q.frozen 3; have f4 := q.frozen 4; have q0 := q.cell 0; have q1 := q.cell 1; have q2 := q.cell 2; have q3 := q.cell 3; have q4 := q.cell 4; (simp at q0 q1 q2 q3 q4); clear q
            clear hall hC H this
            go_wp2_with fail
            go_meet
            case rel =>
              refine ⟨rfl, (Sg.bmost ++ nm.extract 0 1, nm, Sg.bsz, Sg.be, flo + (z : Int)), ?_, _, (((((T.out.swap.set0 0 _).set0 1 _).set0 2 _).set0 3 _).set0 4 _).swap.unbox⟩
              have := Sg.Rule.most (k := k) i hi' (z : Int) HIE.out (by omega) (by omega)
              rw [HNM.out, HF.out, HFL.out] at this
              exact this
          case rest =>
            obtain ⟨rfl, r, hr, M9, H9⟩ := hcut
            have q := H9.box (.head _); have q0 := q.cell 0; have q1 := q.cell 1; have q2 := q.cell 2; have q3 := q.cell 3; have q4 := q.cell 4; (simp [rulCells] at q0 q1 q2 q3 q4); clear q
            have H8 := Lib.hid H9.unbox.unbox.tail
            have HR := Lib.hid hr
            clear H9 hr
            rename_i hK
            apply hK
            refine wp_ret ?_
            (try simp only [Exit.then])
            refine bodyPost_ret (v := .tuple #[.agg (rulCells r), .bool true]) ?_ rfl ?_
            · simp [results, Tryd.results34, go_sem, q0, q1, q2, q3, q4, rulCells]
              try rfl
            · exact ⟨r, true, M9, rfl, HR.out, H8.out⟩
        · have t2 : (v == 0) = false := by rw [beq_eq_false_iff_ne]; exact hv
          go_upto_region 10 with fail
          go_cut [5] from 6 (fun v5 w' => v5 = .bool true ∧ ∃ r, Sg.Rule k r true ∧ ∃ M, MkH K M ((rb, 91, rulCells r) :: (kb, 56, #[.string nm, .int .i64 lo, .int .i64 hi, .slice (some ⟨b1, o1, none⟩) n c]) :: bx) rs ((fun M W => SlAt M W (some ⟨b1, o1, none⟩) (Sc.flds k)) :: L) w')
          case first =>
            obtain ⟨wo, rfl⟩ : ∃ wo : World, wo = w5 := ⟨_, rfl⟩
            letI : Grow := K.grow
            apply RG.wp_region_typed (C := fun w' => K.R wo w') (n := 67) (m := 12) (l1 := [_, _, _, _, _, _, _, _, _, _, _, _]) (l2 := [_, _])
            · rfl
            · rfl
            · kernel_rfl
            · rfl
            · kernel_rfl
            · exact K.drew wo
            · exact fun u u' h hb => h.trans hb
            (apply RG.wpT_exact; · (intro w' hC hf; unfold RG.Gives; clear hf hC; go_wp2_with (fail); apply RG.postT_val rfl (Grow.refl _); simp only [RG.valAt, Array.getD_eq_getD_getElem?, List.getElem?_toArray, List.getElem?_cons_succ, List.getElem?_cons_zero, Option.getD_some]; exact rfl)); (try simp only [Act.put, List.setIfInBounds_toArray, List.set_cons_zero, List.set_cons_succ])
            (apply RG.wpT_exact; · (intro w' hC hf; unfold RG.Gives; have q := (H.out.turn hC).box (.tail _ (.tail _ (.head _))); have q0 := q.cell 0; (simp at q0); clear q; clear hf hC; go_wp2_with (fail); apply RG.postT_val rfl (Grow.refl _); simp only [RG.valAt, Array.getD_eq_getD_getElem?, List.getElem?_toArray, List.getElem?_cons_succ, List.getElem?_cons_zero, Option.getD_some]; exact rfl)); (try simp only [Act.put, List.setIfInBounds_toArray, List.set_cons_zero, List.set_cons_succ])
            (apply RG.wpT_exact; · (intro w' hC hf; unfold RG.Gives; clear hf hC; go_wp2_with (fail); apply RG.postT_val rfl (Grow.refl _); simp only [RG.valAt, Array.getD_eq_getD_getElem?, List.getElem?_toArray, List.getElem?_cons_succ, List.getElem?_cons_zero, Option.getD_some]; exact rfl)); (try simp only [Act.put, List.setIfInBounds_toArray, List.set_cons_zero, List.set_cons_succ])
            (apply RG.wpT_exact; · (intro w' hC hf; unfold RG.Gives; clear hf hC; go_wp2_with (fail); apply RG.postT_val rfl (Grow.refl _); simp only [RG.valAt, Array.getD_eq_getD_getElem?, List.getElem?_toArray, List.getElem?_cons_succ, List.getElem?_cons_zero, Option.getD_some]; exact rfl)); (try simp only [Act.put, List.setIfInBounds_toArray, List.set_cons_zero, List.set_cons_succ])
            (apply RG.wpT_exact; · (intro w' hC hf; unfold RG.Gives; clear hf hC; go_wp2_with (fail); apply RG.postT_val rfl (Grow.refl _); simp only [RG.valAt, Array.getD_eq_getD_getElem?, List.getElem?_toArray, List.getElem?_cons_succ, List.getElem?_cons_zero, Option.getD_some]; exact rfl)); (try simp only [Act.put, List.setIfInBounds_toArray, List.set_cons_zero, List.set_cons_succ])
            (apply RG.wpT_exact; · (intro w' hC hf; unfold RG.Gives; have q := (H.out.turn hC).box (.tail _ (.tail _ (.head _))); have q0 := q.cell 0; (simp at q0); clear q; clear hf hC; go_wp2_with (fail); apply RG.postT_val rfl (Grow.refl _); simp only [RG.valAt, Array.getD_eq_getD_getElem?, List.getElem?_toArray, List.getElem?_cons_succ, List.getElem?_cons_zero, Option.getD_some]; exact rfl)); (try simp only [Act.put, List.setIfInBounds_toArray, List.set_cons_zero, List.set_cons_succ])
            (apply RG.wpT_exact; · (intro w' hC hf; unfold RG.Gives; clear hf hC; go_wp2_with (fail); apply RG.postT_val rfl (Grow.refl _); simp only [RG.valAt, Array.getD_eq_getD_getElem?, List.getElem?_toArray, List.getElem?_cons_succ, List.getElem?_cons_zero, Option.getD_some]; exact rfl)); (try simp only [Act.put, List.setIfInBounds_toArray, List.set_cons_zero, List.set_cons_succ])
            apply RG.wpT_typed (T := fun v _ => ∃ z : Nat, v = .int .i64 (z : Int) ∧ z < 12) (fun v w w' h _ => h)
            · intro w' hC hf; unfold RG.Gives; clear hf
              go_wp2_with fail
              go_at_call 32
              refine ((H.out.turn hC).take 12 (by omega) (by omega)).mono ?_
              rintro e w3 ⟨v, rfl, v1, v2, hr⟩
              obtain ⟨z, rfl⟩ : ∃ z' : Nat, v = z' := ⟨v.toNat, by omega⟩
              go_wp2_with fail
              refine RG.postT_mk rfl hr ?_; simp only [RG.valAt, Array.getD_eq_getD_getElem?, List.getElem?_toArray, List.getElem?_cons_succ, List.getElem?_cons_zero, Option.getD_some]; exact ⟨z, rfl, by omega⟩
            intro v62; (try simp only [Act.put, List.setIfInBounds_toArray, List.set_cons_zero, List.set_cons_succ])
            (apply RG.wpT_exact; · (intro w' hC hf; unfold RG.Gives; clear hf hC; go_wp2_with (fail); apply RG.postT_val rfl (Grow.refl _); simp only [RG.valAt, Array.getD_eq_getD_getElem?, List.getElem?_toArray, List.getElem?_cons_succ, List.getElem?_cons_zero, Option.getD_some]; exact rfl)); (try simp only [Act.put, List.setIfInBounds_toArray, List.set_cons_zero, List.set_cons_succ])
            (apply RG.wpT_exact; · (intro w' hC hf; unfold RG.Gives; have q := (H.out.turn hC).box (.head _); have q5 := q.cell 5; (simp at q5); clear q; clear hf hC; go_wp2_with (fail); apply RG.postT_val rfl (Grow.refl _); simp only [RG.valAt, Array.getD_eq_getD_getElem?, List.getElem?_toArray, List.getElem?_cons_succ, List.getElem?_cons_zero, Option.getD_some]; exact rfl)); (try simp only [Act.put, List.setIfInBounds_toArray, List.set_cons_zero, List.set_cons_succ])
            apply RG.wpT_typed (T := fun v _ => ∃ z : Nat, v = .int .i64 ((z : Int) - fhi) ∧ z < 12) (fun v w w' h _ => h)
            · intro w' hC hf; unfold RG.Gives; obtain ⟨z, rfl, z1⟩ := hf.1 rfl; clear hf hC
              go_wp2_with fail
              refine RG.postT_mk rfl (Grow.refl _) ?_; simp only [RG.valAt, Array.getD_eq_getD_getElem?, List.getElem?_toArray, List.getElem?_cons_succ, List.getElem?_cons_zero, Option.getD_some]; exact ⟨z, rfl, z1⟩
            intro v65; (try simp only [Act.put, List.setIfInBounds_toArray, List.set_cons_zero, List.set_cons_succ])
            apply RG.wpT_typed (T := fun v _ => ∃ z : Nat, v = .agg #[.string (Sg.bleast ++ nm.extract 0 1), .string nm, .string Sg.be, .string Sg.bsz, .int .i64 ((z : Int) - fhi)] ∧ z < 12) (fun v w w' h _ => h)
            · intro w' hC hf; unfold RG.Gives; obtain ⟨z, rfl, z1⟩ := hf.1 rfl; clear hf hC
              go_wp2_with fail
              refine RG.postT_mk rfl (Grow.refl _) ?_; simp only [RG.valAt, Array.getD_eq_getD_getElem?, List.getElem?_toArray, List.getElem?_cons_succ, List.getElem?_cons_zero, Option.getD_some]; exact ⟨z, rfl, z1⟩
            intro v66; (try simp only [Act.put, List.setIfInBounds_toArray, List.set_cons_zero, List.set_cons_succ])
            apply RG.wpT_done
            intro w4 hC hall
            obtain ⟨z, rfl, z1⟩ := hall.1
            have T := Lib.hid (H.out.turn hC)
            have q := T.out.box (.tail _ (.head _)); have f0 := q.frozen 0; have f1 := q.frozen 1; have f2 := q.frozen 2; have f3 := q.frozen 3; have f4 := q.frozen 4; have q0 := q.cell 0; have q1 := q.cell 1; have q2 := q.cell 2; have q3 := q.cell 3; have q4 := q.cell 4; (simp at q0 q1 q2 q3 q4); clear q
            clear hall hC H this
            go_wp2_with fail
            go_meet
            case rel =>
              refine ⟨rfl, (Sg.bleast ++ nm.extract 0 1, nm, Sg.be, Sg.bsz, (z : Int) - fhi), ?_, _, (((((T.out.swap.set0 0 _).set0 1 _).set0 2 _).set0 3 _).set0 4 _).swap.unbox⟩
              have := Sg.Rule.least (k := k) i hi' (z : Int) HIE.out (by omega) (by omega)
              rw [HNM.out, HF.out, HFH.out] at this
              exact this
          case rest =>
            obtain ⟨rfl, r, hr, M9, H9⟩ := hcut
            have q := H9.box (.head _); have q0 := q.cell 0; have q1 := q.cell 1; have q2 := q.cell 2; have q3 := q.cell 3; have q4 := q.cell 4; (simp [rulCells] at q0 q1 q2 q3 q4); clear q
            have H8 := Lib.hid H9.unbox.unbox.tail
            have HR := Lib.hid hr
            clear H9 hr
            rename_i hK
            apply hK
            refine wp_ret ?_
            (try simp only [Exit.inBlock, Exit.then])
            refine bodyPost_ret (v := .tuple #[.agg (rulCells r), .bool true]) ?_ rfl ?_
            · simp [results, Tryd.results34, go_sem, q0, q1, q2, q3, q4, rulCells]
              try rfl
            · exact ⟨r, true, M9, rfl, HR.out, H8.out⟩
    · have HB := Lib.hid (show 0 ≤ Sc.ix (Sc.named Sg.blow) (Sc.flds k) by rw [HIL.out]; exact hb rfl)
      clear hb
      go_upto_region 4 with fail
      go_cut [5] from 6 (fun v5 w' => v5 = .bool true ∧ ∃ r, Sg.Rule k r true ∧ ∃ M, MkH K M ((rb, 91, rulCells r) :: (kb, 56, #[.string nm, .int .i64 lo, .int .i64 hi, .slice A n c]) :: bx) rs ((fun M W => SlAt M W A (Sc.flds k)) :: L) w')
      case first =>
        obtain ⟨wo, rfl⟩ : ∃ wo : World, wo = wc := ⟨_, rfl⟩
        letI : Grow := K.grow
        apply RG.wp_region_typed (C := fun w' => K.R wo w') (n := 67) (m := 10) (l1 := [_, _, _, _, _, _, _, _, _, _]) (l2 := [_, _])
        · rfl
        · rfl
        · kernel_rfl
        · rfl
        · kernel_rfl
        · exact K.drew wo
        · exact fun u u' h hb => h.trans hb
        (apply RG.wpT_exact; · (intro w' hC hf; unfold RG.Gives; clear hf hC; go_wp2_with (fail); apply RG.postT_val rfl (Grow.refl _); simp only [RG.valAt, Array.getD_eq_getD_getElem?, List.getElem?_toArray, List.getElem?_cons_succ, List.getElem?_cons_zero, Option.getD_some]; exact rfl)); (try simp only [Act.put, List.setIfInBounds_toArray, List.set_cons_zero, List.set_cons_succ])
        (apply RG.wpT_exact; · (intro w' hC hf; unfold RG.Gives; have q := (H.out.turn hC).box (.tail _ (.head _)); have q0 := q.cell 0; (simp at q0); clear q; clear hf hC; go_wp2_with (fail); apply RG.postT_val rfl (Grow.refl _); simp only [RG.valAt, Array.getD_eq_getD_getElem?, List.getElem?_toArray, List.getElem?_cons_succ, List.getElem?_cons_zero, Option.getD_some]; exact rfl)); (try simp only [Act.put, List.setIfInBounds_toArray, List.set_cons_zero, List.set_cons_succ])
        (apply RG.wpT_exact; · (intro w' hC hf; unfold RG.Gives; clear hf hC; go_wp2_with (fail); apply RG.postT_val rfl (Grow.refl _); simp only [RG.valAt, Array.getD_eq_getD_getElem?, List.getElem?_toArray, List.getElem?_cons_succ, List.getElem?_cons_zero, Option.getD_some]; exact rfl)); (try simp only [Act.put, List.setIfInBounds_toArray, List.set_cons_zero, List.set_cons_succ])
        (apply RG.wpT_exact; · (intro w' hC hf; unfold RG.Gives; clear hf hC; go_wp2_with (fail); apply RG.postT_val rfl (Grow.refl _); simp only [RG.valAt, Array.getD_eq_getD_getElem?, List.getElem?_toArray, List.getElem?_cons_succ, List.getElem?_cons_zero, Option.getD_some]; exact rfl)); (try simp only [Act.put, List.setIfInBounds_toArray, List.set_cons_zero, List.set_cons_succ])
        (apply RG.wpT_exact; · (intro w' hC hf; unfold RG.Gives; clear hf hC; go_wp2_with (fail); apply RG.postT_val rfl (Grow.refl _); simp only [RG.valAt, Array.getD_eq_getD_getElem?, List.getElem?_toArray, List.getElem?_cons_succ, List.getElem?_cons_zero, Option.getD_some]; exact rfl)); (try simp only [Act.put, List.setIfInBounds_toArray, List.set_cons_zero, List.set_cons_succ])
        (apply RG.wpT_exact; · (intro w' hC hf; unfold RG.Gives; have q := (H.out.turn hC).box (.tail _ (.head _)); have q0 := q.cell 0; (simp at q0); clear q; clear hf hC; go_wp2_with (fail); apply RG.postT_val rfl (Grow.refl _); simp only [RG.valAt, Array.getD_eq_getD_getElem?, List.getElem?_toArray, List.getElem?_cons_succ, List.getElem?_cons_zero, Option.getD_some]; exact rfl)); (try simp only [Act.put, List.setIfInBounds_toArray, List.set_cons_zero, List.set_cons_succ])
        (apply RG.wpT_exact; · (intro w' hC hf; unfold RG.Gives; clear hf hC; go_wp2_with (fail); apply RG.postT_val rfl (Grow.refl _); simp only [RG.valAt, Array.getD_eq_getD_getElem?, List.getElem?_toArray, List.getElem?_cons_succ, List.getElem?_cons_zero, Option.getD_some]; exact rfl)); (try simp only [Act.put, List.setIfInBounds_toArray, List.set_cons_zero, List.set_cons_succ])
        apply RG.wpT_typed (T := fun v _ => ∃ z : Nat, v = .int .i64 (z : Int) ∧ z < 8) (fun v w w' h _ => h)
        · intro w' hC hf; unfold RG.Gives; clear hf
          go_wp2_with fail
          go_at_call 32
          refine ((H.out.turn hC).take 8 (by omega) (by omega)).mono ?_
          rintro e w3 ⟨v, rfl, v1, v2, hr⟩
          obtain ⟨z, rfl⟩ : ∃ z' : Nat, v = z' := ⟨v.toNat, by omega⟩
          go_wp2_with fail
          refine RG.postT_mk rfl hr ?_; simp only [RG.valAt, Array.getD_eq_getD_getElem?, List.getElem?_toArray, List.getElem?_cons_succ, List.getElem?_cons_zero, Option.getD_some]; exact ⟨z, rfl, by omega⟩
        intro v29; (try simp only [Act.put, List.setIfInBounds_toArray, List.set_cons_zero, List.set_cons_succ])
        apply RG.wpT_typed (T := fun v _ => ∃ z : Nat, v = .int .i64 ((z : Int) - 2) ∧ z < 8) (fun v w w' h _ => h)
        · intro w' hC hf; unfold RG.Gives; obtain ⟨z, rfl, z1⟩ := hf.1 rfl; clear hf hC
          go_wp2_with fail
          refine RG.postT_mk rfl (Grow.refl _) ?_; simp only [RG.valAt, Array.getD_eq_getD_getElem?, List.getElem?_toArray, List.getElem?_cons_succ, List.getElem?_cons_zero, Option.getD_some]; exact ⟨z, rfl, z1⟩
        intro v30; (try simp only [Act.put, List.setIfInBounds_toArray, List.set_cons_zero, List.set_cons_succ])
        apply RG.wpT_typed (T := fun v _ => ∃ z : Nat, v = .agg #[.string (Sg.border ++ nm.extract 0 1), .string nm, .string Sg.blow, .string Sg.bhigh, .int .i64 ((z : Int) - 2)] ∧ z < 8) (fun v w w' h _ => h)
        · intro w' hC hf; unfold RG.Gives; obtain ⟨z, rfl, z1⟩ := hf.1 rfl; clear hf hC
          go_wp2_with fail
          refine RG.postT_mk rfl (Grow.refl _) ?_; simp only [RG.valAt, Array.getD_eq_getD_getElem?, List.getElem?_toArray, List.getElem?_cons_succ, List.getElem?_cons_zero, Option.getD_some]; exact ⟨z, rfl, z1⟩
        intro v31; (try simp only [Act.put, List.setIfInBounds_toArray, List.set_cons_zero, List.set_cons_succ])
        apply RG.wpT_done
        intro w4 hC hall
        obtain ⟨z, rfl, z1⟩ := hall.1
        have T := Lib.hid (H.out.turn hC)
        have q := T.out.box (.head _); have f0 := q.frozen 0; have f1 := q.frozen 1; have f2 := q.frozen 2; have f3 := q.frozen 3; have f4 := q.frozen 4; have q0 := q.cell 0; have q1 := q.cell 1; have q2 := q.cell 2; have q3 := q.cell 3; have q4 := q.cell 4; (simp at q0 q1 q2 q3 q4); clear q
        clear hall hC H this
        go_wp2_with fail
        go_meet
        case rel =>
          refine ⟨rfl, (Sg.border ++ nm.extract 0 1, nm, Sg.blow, Sg.bhigh, (z : Int) - 2), ?_, _, ((((T.out.set0 0 _).set0 1 _).set0 2 _).set0 3 _).set0 4 _⟩
          have := Sg.Rule.low (k := k) (z : Int) HB.out (by omega) (by omega)
          rw [HNM.out] at this
          exact this
      case rest =>
        obtain ⟨rfl, r, hr, M9, H9⟩ := hcut
        have q := H9.box (.head _); have q0 := q.cell 0; have q1 := q.cell 1; have q2 := q.cell 2; have q3 := q.cell 3; have q4 := q.cell 4; (simp [rulCells] at q0 q1 q2 q3 q4); clear q
        have H8 := Lib.hid H9.unbox.unbox.tail
        have HR := Lib.hid hr
        clear H9 hr
        rename_i hK
        apply hK
        refine wp_ret ?_
        (try simp only [Exit.then])
        refine bodyPost_ret (v := .tuple #[.agg (rulCells r), .bool true]) ?_ rfl ?_
        · simp [results, Tryd.results34, go_sem, q0, q1, q2, q3, q4, rulCells]
          try rfl
        · exact ⟨r, true, M9, rfl, HR.out, H8.out⟩
end Go.Proofs.YtdpcdocaahjeoaaDoor
