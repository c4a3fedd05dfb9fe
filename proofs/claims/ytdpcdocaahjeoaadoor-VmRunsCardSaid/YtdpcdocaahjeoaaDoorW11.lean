/- Run: the program's. -/
import Derived.Test.YtdpcdocaahjeoaaDoorW11a
namespace Go.Proofs.YtdpcdocaahjeoaaDoor
open Go Go.RowKit
set_option maxRecDepth 100000 in
set_option maxHeartbeats 8000000 in
theorem run_any (x : Sch) (v : Value) (p : List Vm.Ins) (Ap : Option Addr) (c : Nat) (wl : Wor) (Aw : Option Addr) (cw : Nat) (most : Int) (w : World) (hx : SchV x w v) (hp : SlAt [] w Ap p) (hm : p.length ≤ 9223372036854775807) (hw : SlAt [] w Aw wl) (hwm : wl.length ≤ 9223372036854775807) :
    Calls Tryd.prog 14 #[v, .slice Ap p.length c, .iface 46 (.agg #[.slice Aw wl.length cw]), .int .i64 most] w fun e w' => TupR (Vm.run (shp (Sc.kinds x)) p wl most) e ∧ Below w.heap.size w w' := by
  obtain ⟨us, rfl, hu⟩ := hx
  obtain ⟨A, cp, B, d, C, e, rfl, s1, s2, s3, a1, b1, b2, b3, b4, b5, b6⟩ := rep_sch hu
  obtain ⟨n, hn⟩ : ∃ n, p.length = n := ⟨_, rfl⟩
  obtain ⟨R, hR⟩ : ∃ R, Vm.run (shp (Sc.kinds x)) p wl most = R := ⟨_, rfl⟩
  have hrun := hR
  unfold Vm.run at hrun
  rw [hR]
  have HX := Lib.hid (show SchV x w _ from ⟨_, rfl, hu⟩)
  have HP := Lib.hid hp
  have HW := Lib.hid hw
  have CV := Lib.hid (fun W (hb : Below w.heap.size w W) => valid_any p Ap c W (hp.keep (Chg.of_below hb)) hm)
  obtain ⟨vv, hvv⟩ : ∃ z, Vm.vld p = z := ⟨_, rfl⟩
  rw [hvv] at CV hrun
  rw [hn] at CV ⊢
  have T0 := Lib.hid (run_box w #[.int .i64 x.1, .slice A (Sc.kinds x).length cp, .slice B x.2.2.1.length d, .slice C x.2.2.2.length e])
  clear hu s1 s2 s3 a1 b1 b2 b3 b4 b5 b6 hp hw hR
  by_cases h0 : vv = 0
  · subst h0
    rw [if_neg (by simp)] at hrun
    have hall : ∀ i ∈ p, Vm.insOk (p.length : Int) i = true := by
      have hv := hvv
      unfold Vm.vld at hv
      have hl : ¬ 128 < p.length := by intro hc; rw [if_pos hc] at hv; cases hv
      rw [if_neg hl] at hv
      cases hb : p.all (Vm.insOk p.length) with
      | true => exact List.all_eq_true.1 hb
      | false => rw [hb] at hv; simp at hv
    have hl128 : n ≤ 128 := by
      have hv := hvv
      unfold Vm.vld at hv
      by_cases hl : 128 < p.length
      · rw [if_pos hl] at hv; cases hv
      · omega
    have HO := Lib.hid hall
    have CN := Lib.hid (fun W (hb : Below w.heap.size w W) => named_any x p.length p Ap c W _ (by obtain ⟨us, h1, h2⟩ := HX.out; exact ⟨us, h1, Mem.keep h2 (Chg.of_below hb)⟩) (HP.out.keep (Chg.of_below hb)) hm hall)
    rw [hn] at CN
    obtain ⟨nb, hnb⟩ : ∃ z, Vm.named (shp (Sc.kinds x)) p = z := ⟨_, rfl⟩
    rw [hnb] at CN hrun
    have HN := Lib.hid hn
    rw [hn] at hm
    clear hvv hn hall hnb HX
    generalize (Sc.kinds x).length = n1 at *
    generalize x.2.2.1.length = n2 at *
    generalize x.2.2.2.length = n3 at *
    generalize x.1 = x1' at *
    by_cases hmost : most < 0 ∨ 1000000 < most
    · rw [if_pos hmost] at hrun
      have HR := Lib.hid hrun.symm
      clear hrun
      by_cases q0 : most < 0
      · have q1 : decide (most < 0) = true := decide_eq_true q0
        clear hmost q0
        go_enter Tryd.func14, Tryd.ntmps14
        go_wp2_with (go_at_call 18; ((with_reducible refine (CV.out _ T0.out.bl).mono ?_)); rintro e w2 ⟨rfl, hb2⟩; replace T0 := Lib.hid (T0.out.below hb2); clear hb2; obtain ⟨x0, x1, f0, f1⟩ := cells2 (T0.out.box (.head _)); obtain ⟨y0, y1, y2, y3⟩ := cells4 (T0.out.box (.tail _ (.head _))))
        obtain ⟨k1, k2⟩ := T0.out.res (.int .i64 0) (.int .i64 0)
        exact fin2 rfl rfl rfl rfl k1 ⟨tupR_mk HR.out, k2⟩
      · have q1 : decide (most < 0) = false := decide_eq_false q0
        have q2 : decide (1000000 < most) = true := decide_eq_true (by omega)
        clear hmost q0
        go_enter Tryd.func14, Tryd.ntmps14
        go_wp2_with (go_at_call 18; ((with_reducible refine (CV.out _ T0.out.bl).mono ?_)); rintro e w2 ⟨rfl, hb2⟩; replace T0 := Lib.hid (T0.out.below hb2); clear hb2; obtain ⟨x0, x1, f0, f1⟩ := cells2 (T0.out.box (.head _)); obtain ⟨y0, y1, y2, y3⟩ := cells4 (T0.out.box (.tail _ (.head _))))
        obtain ⟨k1, k2⟩ := T0.out.res (.int .i64 0) (.int .i64 0)
        exact fin2 rfl rfl rfl rfl k1 ⟨tupR_mk HR.out, k2⟩
    · rw [if_neg hmost] at hrun
      have q1 : decide (most < 0) = false := decide_eq_false (by omega)
      have q2 : decide (1000000 < most) = false := decide_eq_false (by omega)
      cases nb
      · rw [if_pos rfl] at hrun
        have HR := Lib.hid hrun.symm
        clear hrun hmost
        go_enter Tryd.func14, Tryd.ntmps14
        go_wp2_with (first | (go_at_call 18; ((with_reducible refine (CV.out _ T0.out.bl).mono ?_)); rintro e w2 ⟨rfl, hb2⟩; replace T0 := Lib.hid (T0.out.below hb2); clear hb2; obtain ⟨x0, x1, f0, f1⟩ := cells2 (T0.out.box (.head _)); obtain ⟨y0, y1, y2, y3⟩ := cells4 (T0.out.box (.tail _ (.head _)))) | (go_at_call 39; ((with_reducible refine (CN.out _ T0.out.bl).mono ?_)); rintro e wn ⟨rfl, hb2⟩; replace T0 := Lib.hid (T0.out.below hb2); clear hb2; obtain ⟨x0, x1, f0, f1⟩ := cells2 (T0.out.box (.head _))))
        obtain ⟨k1, k2⟩ := T0.out.res (.int .i64 0) (.int .i64 0)
        exact fin2 rfl rfl rfl rfl k1 ⟨tupR_mk HR.out, k2⟩
      · rw [if_neg (by decide)] at hrun
        obtain ⟨m, rfl⟩ := Int.eq_ofNat_of_zero_le (show 0 ≤ most by omega)
        have hm6 : m ≤ 1000000 := by omega
        have HR := Lib.hid (show Vm.go p wl m 0 0 [0, 0, 0, 0, 0, 0, 0, 0] = R from hrun)
        clear hrun hmost
        go_enter Tryd.func14, Tryd.ntmps14
        go_wp2_with (first | (go_at_call 18; ((with_reducible refine (CV.out _ T0.out.bl).mono ?_)); rintro e w2 ⟨rfl, hb2⟩; replace T0 := Lib.hid (T0.out.below hb2); clear hb2; obtain ⟨x0, x1, f0, f1⟩ := cells2 (T0.out.box (.head _)); obtain ⟨y0, y1, y2, y3⟩ := cells4 (T0.out.box (.tail _ (.head _)))) | (go_at_call 39; ((with_reducible refine (CN.out _ T0.out.bl).mono ?_)); rintro e wn ⟨rfl, hb2⟩; replace T0 := Lib.hid (T0.out.below hb2); clear hb2; obtain ⟨x0, x1, f0, f1⟩ := cells2 (T0.out.box (.head _))))
        replace T0 := Lib.hid (T0.out.new (regV [0, 0, 0, 0, 0, 0, 0, 0]) 103 rfl)
        obtain ⟨Nr, hNr⟩ : ∃ N, wn.heap.size = N := ⟨_, rfl⟩
        rw [hNr] at T0 ⊢
        clear hNr
        go_loopg [12, 13] m (fun r a b wr => ∃ (at_ : Nat) (k : Int) (rl : List Int) (M : List Nat), a = .int .i64 at_ ∧ b = .int .i64 k ∧ k + r = m ∧ 0 ≤ k ∧ at_ ≤ n ∧ rl.length = 8 ∧ Held w [] M [(Nr, 103, regV rl), (w.heap.size + 1, 38, #[.int .i64 0, .int .i64 0]), (w.heap.size, 27, #[.int .i64 x1', .slice A n1 cp, .slice B n2 d, .slice C n3 e])] [] wr ∧ Vm.go p wl r k at_ rl = R)
        case atStart => exact ⟨0, 0, _, _, rfl, rfl, by omega, by omega, by omega, rfl, T0.out, HR.out⟩
        case round =>
          obtain ⟨at_, k, rl, M, rfl, rfl, hk, hk0, hat, h8, hH, hg⟩ := hrel
          have T1 := Lib.hid hH; have H8 := Lib.hid h8
          clear hH h8 T0 HR
          rw [Vm.go_eq] at hg
          rw [HN.out] at hg
          by_cases ha : at_ = n
          · subst ha
            rw [if_pos rfl] at hg
            have HG := Lib.hid hg.symm
            clear hg
            obtain ⟨x0, x1, f0, f1⟩ := cells2 (T1.out.box (.tail _ (.head _)))
            go_wp2_with fail
            obtain ⟨k1, k2⟩ := (T1.out.less (L' := []) (fun _ h => by cases h) (.cons _ (List.Sublist.refl _))).res (.int .i64 (0)) (.int .i64 (k))
            exact fin2 rfl rfl rfl rfl k1 ⟨tupR_mk HG.out, k2⟩
          · rw [if_neg (by omega)] at hg
            have t0 : (at_ == n) = false := by simpa using ha
            have hlt : at_ < n := by omega
            cases gk with
            | zero =>
              have hkm : k = (m : Int) := by omega
              subst hkm
              have HG := Lib.hid hg.symm
              clear hg
              obtain ⟨x0, x1, f0, f1⟩ := cells2 (T1.out.box (.tail _ (.head _)))
              go_wp2_with fail
              obtain ⟨k1, k2⟩ := (T1.out.less (L' := []) (fun _ h => by cases h) (.cons _ (List.Sublist.refl _))).res (.int .i64 (0)) (.int .i64 (0))
              exact fin2 rfl rfl rfl rfl k1 ⟨tupR_mk HG.out, k2⟩
            | succ r' =>
              dsimp only at hg
              have t1 : (k == (m : Int)) = false := by simp; omega
              have hkp : at_ < p.length := by rw [HN.out]; exact hlt
              have a0 : (0 : Int) ≤ (at_ : Int) := Int.natCast_nonneg _
              have a2 : (at_ : Int) < (n : Int) := by omega
              obtain ⟨b', o', rfl, hbg, e0, e1, e2, e3, i0, i1, i2, i3⟩ := Vm.ins_at (HP.out.keep (Chg.of_below T1.out.bl)) at_ hkp
              have hok := HO.out _ (List.getElem_mem hkp)
              rw [HN.out] at hok
              rw [show (at_ : Int).toNat = at_ from rfl, getD_in hkp] at hg
              generalize p[at_] = i at *
              obtain ⟨op, a1, b1, c1⟩ := i
              dsimp only at e0 e1 e2 e3 i0 i1 i2 i3
              have hk1 : k ≤ 1000000 := by omega
              have key := ins_cases hok
              clear hok
              rcases key with ⟨rfl, _, _⟩ | ⟨rfl, a10, a17⟩ | ⟨rfl, a10, a17, b10, b17, c10, c17⟩ | ⟨rfl, a10, a17, b10, b17, c10, c17⟩ | ⟨rfl, a10, a17, b10, b15⟩ | ⟨rfl, a10, a17, b10, b15, c10, c19⟩ | ⟨rfl, a10, a1n⟩ | ⟨rfl, a10, a17, b10, b17, c10, c1n⟩ | ⟨rfl, a10, a17, b10, b17, c10, c1n⟩
              · rw [show Vm.step wl (0, a1, b1, c1) (at_ : Int) rl = .stop a1 by simp [Vm.step]] at hg
                have HG := Lib.hid hg.symm
                clear hg
                have T2 := Lib.hid (T1.out.new #[.int .i64 0, .int .i64 a1, .int .i64 b1, .int .i64 c1] 104 rfl)
                clear T1
                obtain ⟨x0, x1, f0, f1⟩ := cells2 (T2.out.box (.tail _ (.tail _ (.head _))))
                go_wp2_with fail
                obtain ⟨k1, k2⟩ := (T2.out.less (L' := []) (fun _ h => by cases h) (.cons _ (.cons _ (List.Sublist.refl _)))).res (.int .i64 (a1)) (.int .i64 (k + 1))
                exact fin2 rfl rfl rfl rfl k1 ⟨tupR_mk HG.out, k2⟩
              · obtain ⟨a1, rfl⟩ := Int.eq_ofNat_of_zero_le a10
                rw [show Vm.step wl (1, (a1 : Int), b1, c1) (at_ : Int) rl = .on ((at_ : Int) + 1) (rl.set a1 b1) by simp [Vm.step, Vm.setR]] at hg
                dsimp only at hg
                rw [show ((at_ : Int) + 1) = ((at_ + 1 : Nat) : Int) by omega] at hg
                have HG := Lib.hid hg
                clear hg
                have T2 := Lib.hid (T1.out.new #[.int .i64 1, .int .i64 (a1 : Int), .int .i64 b1, .int .i64 c1] 104 rfl)
                clear T1
                have CS := Lib.hid (fun M w' (hT : Held w [] M [(wr.heap.size, 104, #[.int .i64 1, .int .i64 (a1 : Int), .int .i64 b1, .int .i64 c1]), (Nr, 103, regV rl), (w.heap.size + 1, 38, #[.int .i64 0, .int .i64 0]), (w.heap.size, 27, #[.int .i64 x1', .slice A n1 cp, .slice B n2 d, .slice C n3 e])] [] w') => set_any Nr wr.heap.size rl 1 a1 b1 c1 b1 w' (hT.box (.tail _ (.head _))) H8.out (hT.box (.head _)) (by omega))
                go_wp2_with ((go_at_call 40; ((with_reducible refine (CS.out _ _ T2.out).mono ?_)); rintro e w3 ⟨rfl, rfl⟩; clear CS; replace T2 := Lib.hid (Held.set_ (bx1 := [_]) T2.out a1 (.int .i64 (b1)))))
                go_roundg r'
                case measure => omega
                case rel =>
                  have U := T2.out.less (L' := []) (fun _ h => by cases h) (.cons _ (List.Sublist.refl _))
                  rw [regV_set] at U
                  exact ⟨at_ + 1, k + 1, _, _, by first | rfl | go_num, by go_num, by omega, by omega, by omega, by rw [List.length_set]; exact H8.out, U, HG.out⟩
              · obtain ⟨a1, rfl⟩ := Int.eq_ofNat_of_zero_le a10
                obtain ⟨b1, rfl⟩ := Int.eq_ofNat_of_zero_le b10
                obtain ⟨c1, rfl⟩ := Int.eq_ofNat_of_zero_le c10
                rw [show Vm.step wl (2, (a1 : Int), (b1 : Int), (c1 : Int)) (at_ : Int) rl = .on ((at_ : Int) + 1) (rl.set a1 (IntKind.i64.wrap (rl.getD b1 0 + rl.getD c1 0))) by simp [Vm.step, Vm.setR, Vm.reg]] at hg
                dsimp only at hg
                rw [show ((at_ : Int) + 1) = ((at_ + 1 : Nat) : Int) by omega] at hg
                have HG := Lib.hid hg
                clear hg
                obtain ⟨u, hu⟩ : ∃ u, rl.getD b1 0 = u := ⟨_, rfl⟩
                obtain ⟨v, hv⟩ : ∃ v, rl.getD c1 0 = v := ⟨_, rfl⟩
                rw [hu, hv] at HG
                obtain ⟨S, hS⟩ : ∃ S, IntKind.i64.wrap (u + v) = S := ⟨_, rfl⟩
                rw [hS] at HG
                have T2 := Lib.hid (T1.out.new #[.int .i64 2, .int .i64 (a1 : Int), .int .i64 (b1 : Int), .int .i64 (c1 : Int)] 104 rfl)
                clear T1
                go_upto_region 25 with fail
                have HU := Lib.hid hu; have HVV := Lib.hid hv
                clear hu hv
                apply wp_region_typed (C := fun w' => Held w [] _ _ [] w') (n := 168) (m := 10) (l1 := [_, _, _, _, _, _, _, _, _, _]) (l2 := [_])
                · rfl
                · rfl
                · kernel_rfl
                · rfl
                · kernel_rfl
                · exact T2.out.drew
                · exact fun u u' h hb => h.below hb
                repeat ((apply wpT_exact; · (intro w' hC hf; unfold Gives; obtain ⟨d0, d1, d2, d3⟩ := cells4 (hC.box (.head _)); have g0 := regc (hC.box (.tail _ (.head _))) H8.out b1 (by omega); rw [HU.out] at g0; have g1 := regc (hC.box (.tail _ (.head _))) H8.out c1 (by omega); rw [HVV.out] at g1; clear hf hC; go_wp2_with (fail); apply postT_val rfl (Below.refl _ _); simp only [valAt, Array.getD_eq_getD_getElem?, List.getElem?_toArray, List.getElem?_cons_succ, List.getElem?_cons_zero, Option.getD_some]; exact rfl)); (try simp only [Act.put, List.setIfInBounds_toArray, List.set_cons_zero, List.set_cons_succ]))
                apply wpT_done
                intro w4 hC _
                replace T2 := Lib.hid hC
                clear hC
                have CS := Lib.hid (fun M w' (hT : Held w [] M [(wr.heap.size, 104, #[.int .i64 2, .int .i64 (a1 : Int), .int .i64 (b1 : Int), .int .i64 (c1 : Int)]), (Nr, 103, regV rl), (w.heap.size + 1, 38, #[.int .i64 0, .int .i64 0]), (w.heap.size, 27, #[.int .i64 x1', .slice A n1 cp, .slice B n2 d, .slice C n3 e])] [] w') => set_any Nr wr.heap.size rl 2 a1 (b1 : Int) (c1 : Int) S w' (hT.box (.tail _ (.head _))) H8.out (hT.box (.head _)) (by omega))
                go_wp2_with ((go_at_call 40; ((with_reducible refine (CS.out _ _ T2.out).mono ?_)); rintro e w3 ⟨rfl, rfl⟩; clear CS; replace T2 := Lib.hid (Held.set_ (bx1 := [_]) T2.out a1 (.int .i64 (S)))))
                go_roundg r'
                case measure => omega
                case rel =>
                  have U := T2.out.less (L' := []) (fun _ h => by cases h) (.cons _ (List.Sublist.refl _))
                  rw [regV_set] at U
                  exact ⟨at_ + 1, k + 1, _, _, by first | rfl | go_num, by go_num, by omega, by omega, by omega, by rw [List.length_set]; exact H8.out, U, HG.out⟩
              · obtain ⟨a1, rfl⟩ := Int.eq_ofNat_of_zero_le a10
                obtain ⟨b1, rfl⟩ := Int.eq_ofNat_of_zero_le b10
                obtain ⟨c1, rfl⟩ := Int.eq_ofNat_of_zero_le c10
                rw [show Vm.step wl (3, (a1 : Int), (b1 : Int), (c1 : Int)) (at_ : Int) rl = .on ((at_ : Int) + 1) (rl.set a1 (IntKind.i64.wrap (rl.getD b1 0 - rl.getD c1 0))) by simp [Vm.step, Vm.setR, Vm.reg]] at hg
                dsimp only at hg
                rw [show ((at_ : Int) + 1) = ((at_ + 1 : Nat) : Int) by omega] at hg
                have HG := Lib.hid hg
                clear hg
                obtain ⟨u, hu⟩ : ∃ u, rl.getD b1 0 = u := ⟨_, rfl⟩
                obtain ⟨v, hv⟩ : ∃ v, rl.getD c1 0 = v := ⟨_, rfl⟩
                rw [hu, hv] at HG
                obtain ⟨S, hS⟩ : ∃ S, IntKind.i64.wrap (u - v) = S := ⟨_, rfl⟩
                rw [hS] at HG
                have T2 := Lib.hid (T1.out.new #[.int .i64 3, .int .i64 (a1 : Int), .int .i64 (b1 : Int), .int .i64 (c1 : Int)] 104 rfl)
                clear T1
                go_upto_region 27 with fail
                have HU := Lib.hid hu; have HVV := Lib.hid hv
                clear hu hv
                apply wp_region_typed (C := fun w' => Held w [] _ _ [] w') (n := 168) (m := 10) (l1 := [_, _, _, _, _, _, _, _, _, _]) (l2 := [_])
                · rfl
                · rfl
                · kernel_rfl
                · rfl
                · kernel_rfl
                · exact T2.out.drew
                · exact fun u u' h hb => h.below hb
                repeat ((apply wpT_exact; · (intro w' hC hf; unfold Gives; obtain ⟨d0, d1, d2, d3⟩ := cells4 (hC.box (.head _)); have g0 := regc (hC.box (.tail _ (.head _))) H8.out b1 (by omega); rw [HU.out] at g0; have g1 := regc (hC.box (.tail _ (.head _))) H8.out c1 (by omega); rw [HVV.out] at g1; clear hf hC; go_wp2_with (fail); apply postT_val rfl (Below.refl _ _); simp only [valAt, Array.getD_eq_getD_getElem?, List.getElem?_toArray, List.getElem?_cons_succ, List.getElem?_cons_zero, Option.getD_some]; exact rfl)); (try simp only [Act.put, List.setIfInBounds_toArray, List.set_cons_zero, List.set_cons_succ]))
                apply wpT_done
                intro w4 hC _
                replace T2 := Lib.hid hC
                clear hC
                have CS := Lib.hid (fun M w' (hT : Held w [] M [(wr.heap.size, 104, #[.int .i64 3, .int .i64 (a1 : Int), .int .i64 (b1 : Int), .int .i64 (c1 : Int)]), (Nr, 103, regV rl), (w.heap.size + 1, 38, #[.int .i64 0, .int .i64 0]), (w.heap.size, 27, #[.int .i64 x1', .slice A n1 cp, .slice B n2 d, .slice C n3 e])] [] w') => set_any Nr wr.heap.size rl 3 a1 (b1 : Int) (c1 : Int) S w' (hT.box (.tail _ (.head _))) H8.out (hT.box (.head _)) (by omega))
                go_wp2_with ((go_at_call 40; ((with_reducible refine (CS.out _ _ T2.out).mono ?_)); rintro e w3 ⟨rfl, rfl⟩; clear CS; replace T2 := Lib.hid (Held.set_ (bx1 := [_]) T2.out a1 (.int .i64 (S)))))
                go_roundg r'
                case measure => omega
                case rel =>
                  have U := T2.out.less (L' := []) (fun _ h => by cases h) (.cons _ (List.Sublist.refl _))
                  rw [regV_set] at U
                  exact ⟨at_ + 1, k + 1, _, _, by first | rfl | go_num, by go_num, by omega, by omega, by omega, by rw [List.length_set]; exact H8.out, U, HG.out⟩
              · obtain ⟨a1, rfl⟩ := Int.eq_ofNat_of_zero_le a10
                rw [show Vm.step wl (4, (a1 : Int), b1, c1) (at_ : Int) rl = .on ((at_ : Int) + 1) (rl.set a1 (Vm.cnt wl b1)) by simp [Vm.step, Vm.setR]] at hg
                dsimp only at hg
                rw [show ((at_ : Int) + 1) = ((at_ + 1 : Nat) : Int) by omega] at hg
                have HG := Lib.hid hg
                clear hg
                have CC := Lib.hid (fun W (hb : Below w.heap.size w W) => count_any wl Aw cw b1 W (HW.out.keep (Chg.of_below hb)) hwm)
                obtain ⟨S, hS⟩ : ∃ S, Vm.cnt wl b1 = S := ⟨_, rfl⟩
                rw [hS] at CC
                rw [hS] at HG
                clear hS
                have T2 := Lib.hid (T1.out.new #[.int .i64 4, .int .i64 (a1 : Int), .int .i64 b1, .int .i64 c1] 104 rfl)
                clear T1
                have CS := Lib.hid (fun M w' (hT : Held w [] M [(wr.heap.size, 104, #[.int .i64 4, .int .i64 (a1 : Int), .int .i64 b1, .int .i64 c1]), (Nr, 103, regV rl), (w.heap.size + 1, 38, #[.int .i64 0, .int .i64 0]), (w.heap.size, 27, #[.int .i64 x1', .slice A n1 cp, .slice B n2 d, .slice C n3 e])] [] w') => set_any Nr wr.heap.size rl 4 a1 b1 c1 S w' (hT.box (.tail _ (.head _))) H8.out (hT.box (.head _)) (by omega))
                have na := nil_ahead_c; have mc := meth_c
                go_wp2_with (first | (go_at_call 123; ((with_reducible refine (CC.out _ T2.out.bl).mono ?_)); rintro e w2 ⟨rfl, hb2⟩; replace T2 := Lib.hid (T2.out.below hb2); clear hb2) | (go_at_call 40; ((with_reducible refine (CS.out _ _ T2.out).mono ?_)); rintro e w3 ⟨rfl, rfl⟩; clear CS; replace T2 := Lib.hid (Held.set_ (bx1 := [_]) T2.out a1 (.int .i64 (S)))))
                go_roundg r'
                case measure => omega
                case rel =>
                  have U := T2.out.less (L' := []) (fun _ h => by cases h) (.cons _ (List.Sublist.refl _))
                  rw [regV_set] at U
                  exact ⟨at_ + 1, k + 1, _, _, by first | rfl | go_num, by go_num, by omega, by omega, by omega, by rw [List.length_set]; exact H8.out, U, HG.out⟩
              · obtain ⟨a1, rfl⟩ := Int.eq_ofNat_of_zero_le a10
                rw [show Vm.step wl (5, (a1 : Int), b1, c1) (at_ : Int) rl = if rl.getD a1 0 < 0 ∨ Vm.cnt wl b1 ≤ rl.getD a1 0 then .stop 251 else .on ((at_ : Int) + 1) (rl.set a1 (Vm.val wl b1 (rl.getD a1 0) c1)) by simp [Vm.step, Vm.setR, Vm.reg]] at hg
                obtain ⟨u, hu⟩ : ∃ u, rl.getD a1 0 = u := ⟨_, rfl⟩
                have CC := Lib.hid (fun W (hb : Below w.heap.size w W) => count_any wl Aw cw b1 W (HW.out.keep (Chg.of_below hb)) hwm)
                obtain ⟨S, hS⟩ : ∃ S, Vm.cnt wl b1 = S := ⟨_, rfl⟩
                rw [hS] at CC
                rw [hu, hS] at hg
                clear hS
                have HU := Lib.hid hu
                clear hu
                have T2 := Lib.hid (T1.out.new #[.int .i64 5, .int .i64 (a1 : Int), .int .i64 b1, .int .i64 c1] 104 rfl)
                clear T1
                have na := nil_ahead_c; have mc := meth_c
                by_cases hu0 : u < 0
                · rw [if_pos (Or.inl hu0)] at hg
                  have HG := Lib.hid hg.symm
                  have t2 : decide (u < 0) = true := decide_eq_true hu0
                  clear hg hu0
                  go_upto_region 31 with fail
                  apply wp_region_typed (C := fun w' => Held w [] _ _ [] w') (n := 168) (m := 16) (l1 := [_, _, _, _, _, _, _, _, _, _, _, _, _, _, _, _]) (l2 := [])
                  · rfl
                  · rfl
                  · kernel_rfl
                  · rfl
                  · kernel_rfl
                  · exact T2.out.drew
                  · exact fun u u' h hb => h.below hb
                  repeat ((apply wpT_exact; · (intro w' hC hf; unfold Gives; obtain ⟨d0, d1, d2, d3⟩ := cells4 (hC.box (.head _)); have g0 := regc (hC.box (.tail _ (.head _))) H8.out a1 (by omega); rw [HU.out] at g0; clear hf hC; go_wp2_with (fail); apply postT_val rfl (Below.refl _ _); simp only [valAt, Array.getD_eq_getD_getElem?, List.getElem?_toArray, List.getElem?_cons_succ, List.getElem?_cons_zero, Option.getD_some]; exact rfl)); (try simp only [Act.put, List.setIfInBounds_toArray, List.set_cons_zero, List.set_cons_succ]))
                  apply wpT_done
                  intro w4 hC _
                  replace T2 := Lib.hid hC
                  clear hC
                  obtain ⟨x0, x1, f0, f1⟩ := cells2 (T2.out.box (.tail _ (.tail _ (.head _))))
                  go_wp2_with fail
                  obtain ⟨k1, k2⟩ := (T2.out.less (L' := []) (fun _ h => by cases h) (.cons _ (.cons _ (List.Sublist.refl _)))).res (.int .i64 (251)) (.int .i64 (k + 1))
                  exact fin2 rfl rfl rfl rfl k1 ⟨tupR_mk HG.out, k2⟩
                · have t2 : decide (u < 0) = false := decide_eq_false hu0
                  by_cases hu1 : S ≤ u
                  · rw [if_pos (Or.inr hu1)] at hg
                    have HG := Lib.hid hg.symm
                    have t3 : decide (S ≤ u) = true := decide_eq_true hu1
                    clear hg hu1 hu0
                    go_upto_region 31 with fail
                    apply wp_region_typed (C := fun w' => Held w [] _ _ [] w') (n := 168) (m := 16) (l1 := [_, _, _, _, _, _, _, _, _, _, _, _, _, _, _, _]) (l2 := [])
                    · rfl
                    · rfl
                    · kernel_rfl
                    · rfl
                    · kernel_rfl
                    · exact T2.out.drew
                    · exact fun u u' h hb => h.below hb
                    repeat (first
                      | ((apply wpT_exact; · (intro w' hC hf; unfold Gives; obtain ⟨d0, d1, d2, d3⟩ := cells4 (hC.box (.head _)); have g0 := regc (hC.box (.tail _ (.head _))) H8.out a1 (by omega); rw [HU.out] at g0; clear hf hC; go_wp2_with (fail); apply postT_val rfl (Below.refl _ _); simp only [valAt, Array.getD_eq_getD_getElem?, List.getElem?_toArray, List.getElem?_cons_succ, List.getElem?_cons_zero, Option.getD_some]; exact rfl)); (try simp only [Act.put, List.setIfInBounds_toArray, List.set_cons_zero, List.set_cons_succ]))
                      | ((apply wpT_exact; · (intro w' hC hf; unfold Gives; obtain ⟨d0, d1, d2, d3⟩ := cells4 (hC.box (.head _)); have g0 := regc (hC.box (.tail _ (.head _))) H8.out a1 (by omega); rw [HU.out] at g0; have HBL := Lib.hid hC.bl; clear hf hC; go_wp2_with ((go_at_call 123; ((with_reducible refine (CC.out _ HBL.out).mono ?_)); rintro e w2 ⟨rfl, hb2⟩)); apply postT_val rfl (by first | exact Below.refl _ _ | assumption); simp only [valAt, Array.getD_eq_getD_getElem?, List.getElem?_toArray, List.getElem?_cons_succ, List.getElem?_cons_zero, Option.getD_some]; exact rfl)); (try simp only [Act.put, List.setIfInBounds_toArray, List.set_cons_zero, List.set_cons_succ])))
                    apply wpT_done
                    intro w4 hC _
                    replace T2 := Lib.hid hC
                    clear hC
                    obtain ⟨x0, x1, f0, f1⟩ := cells2 (T2.out.box (.tail _ (.tail _ (.head _))))
                    go_wp2_with fail
                    obtain ⟨k1, k2⟩ := (T2.out.less (L' := []) (fun _ h => by cases h) (.cons _ (.cons _ (List.Sublist.refl _)))).res (.int .i64 (251)) (.int .i64 (k + 1))
                    exact fin2 rfl rfl rfl rfl k1 ⟨tupR_mk HG.out, k2⟩
                  · rw [if_neg (by omega)] at hg
                    dsimp only at hg
                    rw [show ((at_ : Int) + 1) = ((at_ + 1 : Nat) : Int) by omega] at hg
                    have HG := Lib.hid hg
                    have t3 : decide (S ≤ u) = false := decide_eq_false hu1
                    clear hg hu1 hu0
                    have CV := Lib.hid (fun W (hb : Below w.heap.size w W) => value_any wl Aw cw b1 u c1 W (HW.out.keep (Chg.of_below hb)) hwm)
                    obtain ⟨V, hV⟩ : ∃ V, Vm.val wl b1 u c1 = V := ⟨_, rfl⟩
                    rw [hV] at CV HG
                    clear hV
                    go_upto_region 31 with fail
                    apply wp_region_typed (C := fun w' => Held w [] _ _ [] w') (n := 168) (m := 16) (l1 := [_, _, _, _, _, _, _, _, _, _, _, _, _, _, _, _]) (l2 := [])
                    · rfl
                    · rfl
                    · kernel_rfl
                    · rfl
                    · kernel_rfl
                    · exact T2.out.drew
                    · exact fun u u' h hb => h.below hb
                    repeat (first
                      | ((apply wpT_exact; · (intro w' hC hf; unfold Gives; obtain ⟨d0, d1, d2, d3⟩ := cells4 (hC.box (.head _)); have g0 := regc (hC.box (.tail _ (.head _))) H8.out a1 (by omega); rw [HU.out] at g0; clear hf hC; go_wp2_with (fail); apply postT_val rfl (Below.refl _ _); simp only [valAt, Array.getD_eq_getD_getElem?, List.getElem?_toArray, List.getElem?_cons_succ, List.getElem?_cons_zero, Option.getD_some]; exact rfl)); (try simp only [Act.put, List.setIfInBounds_toArray, List.set_cons_zero, List.set_cons_succ]))
                      | ((apply wpT_exact; · (intro w' hC hf; unfold Gives; obtain ⟨d0, d1, d2, d3⟩ := cells4 (hC.box (.head _)); have g0 := regc (hC.box (.tail _ (.head _))) H8.out a1 (by omega); rw [HU.out] at g0; have HBL := Lib.hid hC.bl; clear hf hC; go_wp2_with ((go_at_call 123; ((with_reducible refine (CC.out _ HBL.out).mono ?_)); rintro e w2 ⟨rfl, hb2⟩)); apply postT_val rfl (by first | exact Below.refl _ _ | assumption); simp only [valAt, Array.getD_eq_getD_getElem?, List.getElem?_toArray, List.getElem?_cons_succ, List.getElem?_cons_zero, Option.getD_some]; exact rfl)); (try simp only [Act.put, List.setIfInBounds_toArray, List.set_cons_zero, List.set_cons_succ])))
                    apply wpT_done
                    intro w4 hC _
                    replace T2 := Lib.hid hC
                    clear hC
                    have CS := Lib.hid (fun M w' (hT : Held w [] M [(wr.heap.size, 104, #[.int .i64 5, .int .i64 (a1 : Int), .int .i64 b1, .int .i64 c1]), (Nr, 103, regV rl), (w.heap.size + 1, 38, #[.int .i64 0, .int .i64 0]), (w.heap.size, 27, #[.int .i64 x1', .slice A n1 cp, .slice B n2 d, .slice C n3 e])] [] w') => set_any Nr wr.heap.size rl 5 a1 b1 c1 V w' (hT.box (.tail _ (.head _))) H8.out (hT.box (.head _)) (by omega))
                    have nb := nil_ahead_v; have mv := meth_v
                    go_upto_region 33 with fail
                    apply wp_region_typed (C := fun w' => Held w [] _ _ [] w') (n := 168) (m := 14) (l1 := [_, _, _, _, _, _, _, _, _, _, _, _, _, _]) (l2 := [_])
                    · rfl
                    · rfl
                    · kernel_rfl
                    · rfl
                    · kernel_rfl
                    · exact T2.out.drew
                    · exact fun u u' h hb => h.below hb
                    repeat (first
                      | ((apply wpT_exact; · (intro w' hC hf; unfold Gives; obtain ⟨d0, d1, d2, d3⟩ := cells4 (hC.box (.head _)); have g0 := regc (hC.box (.tail _ (.head _))) H8.out a1 (by omega); rw [HU.out] at g0; clear hf hC; go_wp2_with (fail); apply postT_val rfl (Below.refl _ _); simp only [valAt, Array.getD_eq_getD_getElem?, List.getElem?_toArray, List.getElem?_cons_succ, List.getElem?_cons_zero, Option.getD_some]; exact rfl)); (try simp only [Act.put, List.setIfInBounds_toArray, List.set_cons_zero, List.set_cons_succ]))
                      | ((apply wpT_exact; · (intro w' hC hf; unfold Gives; obtain ⟨d0, d1, d2, d3⟩ := cells4 (hC.box (.head _)); have g0 := regc (hC.box (.tail _ (.head _))) H8.out a1 (by omega); rw [HU.out] at g0; have HBL := Lib.hid hC.bl; clear hf hC; go_wp2_with ((go_at_call 124; ((with_reducible refine (CV.out _ HBL.out).mono ?_)); rintro e w2 ⟨rfl, hb2⟩)); apply postT_val rfl (by first | exact Below.refl _ _ | assumption); simp only [valAt, Array.getD_eq_getD_getElem?, List.getElem?_toArray, List.getElem?_cons_succ, List.getElem?_cons_zero, Option.getD_some]; exact rfl)); (try simp only [Act.put, List.setIfInBounds_toArray, List.set_cons_zero, List.set_cons_succ])))
                    apply wpT_done
                    intro w4 hC _
                    replace T2 := Lib.hid hC
                    clear hC
                    go_wp2_with ((go_at_call 40; ((with_reducible refine (CS.out _ _ T2.out).mono ?_)); rintro e w3 ⟨rfl, rfl⟩; clear CS; replace T2 := Lib.hid (Held.set_ (bx1 := [_]) T2.out a1 (.int .i64 (V)))))
                    go_roundg r'
                    case measure => omega
                    case rel =>
                      have U := T2.out.less (L' := []) (fun _ h => by cases h) (.cons _ (List.Sublist.refl _))
                      rw [regV_set] at U
                      exact ⟨at_ + 1, k + 1, _, _, by first | rfl | go_num, by go_num, by omega, by omega, by omega, by rw [List.length_set]; exact H8.out, U, HG.out⟩
              · obtain ⟨a1, rfl⟩ := Int.eq_ofNat_of_zero_le a10
                rw [show Vm.step wl (6, (a1 : Int), b1, c1) (at_ : Int) rl = .on (a1 : Int) rl by simp [Vm.step]] at hg
                dsimp only at hg
                have HG := Lib.hid hg
                clear hg
                have T2 := Lib.hid (T1.out.new #[.int .i64 6, .int .i64 (a1 : Int), .int .i64 b1, .int .i64 c1] 104 rfl)
                clear T1
                go_wp2_with fail
                go_roundg r'
                case measure => omega
                case rel => exact ⟨a1, k + 1, rl, _, by first | rfl | go_num, by go_num, by omega, by omega, by omega, H8.out, T2.out.less (L' := []) (fun _ h => by cases h) (.cons _ (List.Sublist.refl _)), HG.out⟩
              · obtain ⟨a1, rfl⟩ := Int.eq_ofNat_of_zero_le a10
                obtain ⟨b1, rfl⟩ := Int.eq_ofNat_of_zero_le b10
                obtain ⟨c1, rfl⟩ := Int.eq_ofNat_of_zero_le c10
                rw [show Vm.step wl (7, (a1 : Int), (b1 : Int), (c1 : Int)) (at_ : Int) rl = .on (if rl.getD a1 0 < rl.getD b1 0 then (c1 : Int) else (at_ : Int) + 1) rl by simp [Vm.step, Vm.reg]] at hg
                dsimp only at hg
                obtain ⟨u, hu⟩ : ∃ u, rl.getD a1 0 = u := ⟨_, rfl⟩
                obtain ⟨v, hv⟩ : ∃ v, rl.getD b1 0 = v := ⟨_, rfl⟩
                rw [hu, hv] at hg
                have HU := Lib.hid hu; have HVV := Lib.hid hv
                clear hu hv
                have T2 := Lib.hid (T1.out.new #[.int .i64 7, .int .i64 (a1 : Int), .int .i64 (b1 : Int), .int .i64 (c1 : Int)] 104 rfl)
                clear T1
                by_cases huv : u < v
                · rw [if_pos huv] at hg
                  have HG := Lib.hid hg
                  have t2 : decide (u < v) = true := by simpa using huv
                  clear hg huv
                  go_upto_region 37 with fail
                  apply wp_region_typed (C := fun w' => Held w [] _ _ [] w') (n := 168) (m := 9) (l1 := [_, _, _, _, _, _, _, _, _]) (l2 := [])
                  · rfl
                  · rfl
                  · kernel_rfl
                  · rfl
                  · kernel_rfl
                  · exact T2.out.drew
                  · exact fun u u' h hb => h.below hb
                  repeat ((apply wpT_exact; · (intro w' hC hf; unfold Gives; obtain ⟨d0, d1, d2, d3⟩ := cells4 (hC.box (.head _)); have g0 := regc (hC.box (.tail _ (.head _))) H8.out a1 (by omega); rw [HU.out] at g0; have g1 := regc (hC.box (.tail _ (.head _))) H8.out b1 (by omega); rw [HVV.out] at g1; clear hf hC; go_wp2_with (fail); apply postT_val rfl (Below.refl _ _); simp only [valAt, Array.getD_eq_getD_getElem?, List.getElem?_toArray, List.getElem?_cons_succ, List.getElem?_cons_zero, Option.getD_some]; exact rfl)); (try simp only [Act.put, List.setIfInBounds_toArray, List.set_cons_zero, List.set_cons_succ]))
                  apply wpT_done
                  intro w4 hC _
                  replace T2 := Lib.hid hC
                  clear hC
                  obtain ⟨d0, d1, d2, d3⟩ := cells4 (T2.out.box (.head _))
                  go_wp2_with fail
                  go_roundg r'
                  case measure => omega
                  case rel => exact ⟨c1, k + 1, rl, _, by first | rfl | go_num, by go_num, by omega, by omega, by omega, H8.out, T2.out.less (L' := []) (fun _ h => by cases h) (.cons _ (List.Sublist.refl _)), HG.out⟩
                · rw [if_neg huv] at hg
                  rw [show ((at_ : Int) + 1) = ((at_ + 1 : Nat) : Int) by omega] at hg
                  have HG := Lib.hid hg
                  have t2 : decide (u < v) = false := by simpa using huv
                  clear hg huv
                  go_upto_region 37 with fail
                  apply wp_region_typed (C := fun w' => Held w [] _ _ [] w') (n := 168) (m := 9) (l1 := [_, _, _, _, _, _, _, _, _]) (l2 := [])
                  · rfl
                  · rfl
                  · kernel_rfl
                  · rfl
                  · kernel_rfl
                  · exact T2.out.drew
                  · exact fun u u' h hb => h.below hb
                  repeat ((apply wpT_exact; · (intro w' hC hf; unfold Gives; obtain ⟨d0, d1, d2, d3⟩ := cells4 (hC.box (.head _)); have g0 := regc (hC.box (.tail _ (.head _))) H8.out a1 (by omega); rw [HU.out] at g0; have g1 := regc (hC.box (.tail _ (.head _))) H8.out b1 (by omega); rw [HVV.out] at g1; clear hf hC; go_wp2_with (fail); apply postT_val rfl (Below.refl _ _); simp only [valAt, Array.getD_eq_getD_getElem?, List.getElem?_toArray, List.getElem?_cons_succ, List.getElem?_cons_zero, Option.getD_some]; exact rfl)); (try simp only [Act.put, List.setIfInBounds_toArray, List.set_cons_zero, List.set_cons_succ]))
                  apply wpT_done
                  intro w4 hC _
                  replace T2 := Lib.hid hC
                  clear hC
                  obtain ⟨d0, d1, d2, d3⟩ := cells4 (T2.out.box (.head _))
                  go_wp2_with fail
                  go_roundg r'
                  case measure => omega
                  case rel => exact ⟨at_ + 1, k + 1, rl, _, by first | rfl | go_num, by go_num, by omega, by omega, by omega, H8.out, T2.out.less (L' := []) (fun _ h => by cases h) (.cons _ (List.Sublist.refl _)), HG.out⟩
              · obtain ⟨a1, rfl⟩ := Int.eq_ofNat_of_zero_le a10
                obtain ⟨b1, rfl⟩ := Int.eq_ofNat_of_zero_le b10
                obtain ⟨c1, rfl⟩ := Int.eq_ofNat_of_zero_le c10
                rw [show Vm.step wl (8, (a1 : Int), (b1 : Int), (c1 : Int)) (at_ : Int) rl = .on (if rl.getD a1 0 = rl.getD b1 0 then (c1 : Int) else (at_ : Int) + 1) rl by simp [Vm.step, Vm.reg]] at hg
                dsimp only at hg
                obtain ⟨u, hu⟩ : ∃ u, rl.getD a1 0 = u := ⟨_, rfl⟩
                obtain ⟨v, hv⟩ : ∃ v, rl.getD b1 0 = v := ⟨_, rfl⟩
                rw [hu, hv] at hg
                have HU := Lib.hid hu; have HVV := Lib.hid hv
                clear hu hv
                have T2 := Lib.hid (T1.out.new #[.int .i64 8, .int .i64 (a1 : Int), .int .i64 (b1 : Int), .int .i64 (c1 : Int)] 104 rfl)
                clear T1
                by_cases huv : u = v
                · rw [if_pos huv] at hg
                  have HG := Lib.hid hg
                  have t2 : (u == v) = true := by simpa using huv
                  clear hg huv
                  go_upto_region 40 with fail
                  apply wp_region_typed (C := fun w' => Held w [] _ _ [] w') (n := 168) (m := 9) (l1 := [_, _, _, _, _, _, _, _, _]) (l2 := [])
                  · rfl
                  · rfl
                  · kernel_rfl
                  · rfl
                  · kernel_rfl
                  · exact T2.out.drew
                  · exact fun u u' h hb => h.below hb
                  repeat ((apply wpT_exact; · (intro w' hC hf; unfold Gives; obtain ⟨d0, d1, d2, d3⟩ := cells4 (hC.box (.head _)); have g0 := regc (hC.box (.tail _ (.head _))) H8.out a1 (by omega); rw [HU.out] at g0; have g1 := regc (hC.box (.tail _ (.head _))) H8.out b1 (by omega); rw [HVV.out] at g1; clear hf hC; go_wp2_with (fail); apply postT_val rfl (Below.refl _ _); simp only [valAt, Array.getD_eq_getD_getElem?, List.getElem?_toArray, List.getElem?_cons_succ, List.getElem?_cons_zero, Option.getD_some]; exact rfl)); (try simp only [Act.put, List.setIfInBounds_toArray, List.set_cons_zero, List.set_cons_succ]))
                  apply wpT_done
                  intro w4 hC _
                  replace T2 := Lib.hid hC
                  clear hC
                  obtain ⟨d0, d1, d2, d3⟩ := cells4 (T2.out.box (.head _))
                  go_wp2_with fail
                  go_roundg r'
                  case measure => omega
                  case rel => exact ⟨c1, k + 1, rl, _, by first | rfl | go_num, by go_num, by omega, by omega, by omega, H8.out, T2.out.less (L' := []) (fun _ h => by cases h) (.cons _ (List.Sublist.refl _)), HG.out⟩
                · rw [if_neg huv] at hg
                  rw [show ((at_ : Int) + 1) = ((at_ + 1 : Nat) : Int) by omega] at hg
                  have HG := Lib.hid hg
                  have t2 : (u == v) = false := by simpa using huv
                  clear hg huv
                  go_upto_region 40 with fail
                  apply wp_region_typed (C := fun w' => Held w [] _ _ [] w') (n := 168) (m := 9) (l1 := [_, _, _, _, _, _, _, _, _]) (l2 := [])
                  · rfl
                  · rfl
                  · kernel_rfl
                  · rfl
                  · kernel_rfl
                  · exact T2.out.drew
                  · exact fun u u' h hb => h.below hb
                  repeat ((apply wpT_exact; · (intro w' hC hf; unfold Gives; obtain ⟨d0, d1, d2, d3⟩ := cells4 (hC.box (.head _)); have g0 := regc (hC.box (.tail _ (.head _))) H8.out a1 (by omega); rw [HU.out] at g0; have g1 := regc (hC.box (.tail _ (.head _))) H8.out b1 (by omega); rw [HVV.out] at g1; clear hf hC; go_wp2_with (fail); apply postT_val rfl (Below.refl _ _); simp only [valAt, Array.getD_eq_getD_getElem?, List.getElem?_toArray, List.getElem?_cons_succ, List.getElem?_cons_zero, Option.getD_some]; exact rfl)); (try simp only [Act.put, List.setIfInBounds_toArray, List.set_cons_zero, List.set_cons_succ]))
                  apply wpT_done
                  intro w4 hC _
                  replace T2 := Lib.hid hC
                  clear hC
                  obtain ⟨d0, d1, d2, d3⟩ := cells4 (T2.out.box (.head _))
                  go_wp2_with fail
                  go_roundg r'
                  case measure => omega
                  case rel => exact ⟨at_ + 1, k + 1, rl, _, by first | rfl | go_num, by go_num, by omega, by omega, by omega, H8.out, T2.out.less (L' := []) (fun _ h => by cases h) (.cons _ (List.Sublist.refl _)), HG.out⟩
  · rw [if_pos h0] at hrun
    have q1 : (vv == 0) = false := by simpa using h0
    have q2 : (vv != 0) = true := by simpa using h0
    have HR := Lib.hid hrun.symm
    clear hrun h0 hvv hn
    generalize (Sc.kinds x).length = n1 at *
    generalize x.2.2.1.length = n2 at *
    generalize x.2.2.2.length = n3 at *
    go_enter Tryd.func14, Tryd.ntmps14
    go_wp2_with (go_at_call 18; ((with_reducible refine (CV.out _ T0.out.bl).mono ?_)); rintro e w2 ⟨rfl, hb2⟩; replace T0 := Lib.hid (T0.out.below hb2); clear hb2; obtain ⟨x0, x1, f0, f1⟩ := cells2 (T0.out.box (.head _)))
    obtain ⟨k1, k2⟩ := T0.out.res (.int .i64 0) (.int .i64 0)
    exact fin2 rfl rfl rfl rfl k1 ⟨tupR_mk HR.out, k2⟩
end Go.Proofs.YtdpcdocaahjeoaaDoor
