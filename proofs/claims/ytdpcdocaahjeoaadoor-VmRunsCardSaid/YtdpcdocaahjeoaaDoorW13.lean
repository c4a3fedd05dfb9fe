/- Run: the reference's. -/
import Derived.Test.YtdpcdocaahjeoaaDoorW12
import Derived.Test.YtdpcdocaahjeoaaDoorW11a
namespace Go.Proofs.YtdpcdocaahjeoaaDoor
open Go Go.RowKit
theorem mk8 (w : World) : (Instr.makeSlice 22 (.int .i64 8) (.int .i64 8)).run Tryd.prog w = .ok (.slice (some ⟨w.heap.size, 0, none⟩) 8 8) (w.alloc (.cells (regV [0, 0, 0, 0, 0, 0, 0, 0]) 3)) := by kernel_rfl
theorem fin2r {fn : Func} {a : Act} {w : World} {b s u : Nat} {x y c : Int} {R : Ending → World → Prop} (hr : fn.results = #[.cell s 47, .tmp u]) (ha : a.tmps.getD s undef = .pointer (some ⟨b, 0, none⟩)) (hc : a.tmps.getD u undef = .int .i64 c) (hd : a.defers = [])
    (hb : Blk w b 47 #[.int .i64 x, .int .i64 y]) (hR : R (.returned (.tuple #[.agg #[.int .i64 x, .int .i64 y], .int .i64 c])) w) : bodyPost Tryd.prog fn R .ret a w := by
  have k0 : w.cell? ⟨b, 0, none⟩ = some (.int .i64 x) := hb.cell 0
  have k1 : w.cell? ⟨b, 1, none⟩ = some (.int .i64 y) := hb.cell 1
  refine bodyPost_ret (v := .tuple #[.agg #[.int .i64 x, .int .i64 y], .int .i64 c]) ?_ hd hR
  simp only [Array.getD_eq_getD_getElem?] at ha hc
  simp [results, hr, go_sem, ha, hc, k0, k1]
theorem rrun_box (w : World) (s : Array Value) : Held w [] [w.heap.size + 1, w.heap.size] [(w.heap.size + 1, 47, #[.int .i64 0, .int .i64 0]), (w.heap.size, 27, s)] [] ((w.alloc (.cells s 27)).alloc (.cells #[.int .i64 0, .int .i64 0] 47)) :=
  ((held0 w [] (fun _ h => by cases h)).new s 27 rfl).new #[.int .i64 0, .int .i64 0] 47 (N := w.heap.size + 1) (by simp)
theorem rHeld_res {w W : World} {M : List Nat} {bx : List Box} {N : Nat} {t : TypeId} {a b : Value} {L : List (List Nat → World → Prop)} (h : Held w [] M ((N, t, #[a, b]) :: bx) L W) (x y : Value) :
    Blk ((W.setCell ⟨N, 0, none⟩ x).setCell ⟨N, 1, none⟩ y) N t #[x, y] ∧ Below w.heap.size w ((W.setCell ⟨N, 0, none⟩ x).setCell ⟨N, 1, none⟩ y) := h.res x y
theorem regc' {w : World} {g : Nat} {t : TypeId} {r : List Int} (h : Blk w g t (regV r)) (h8 : r.length = 8) (k : Nat) (hk : k < 8) : w.cell? ⟨g, k, none⟩ = some (.int .i64 (r.getD k 0)) := (h.cell k).trans (regV_get (by omega))
/-- A world that a schema's programs may read: for each kind records, each with as many values as the kind has fields. -/
def WorOk (s : Vm.Shape) (wl : Wor) : Prop := s.length ≤ wl.length ∧ ∀ k, k < s.length → ∀ r ∈ wl.getD k [], s.getD k 0 ≤ r.length
set_option maxRecDepth 100000 in
set_option maxHeartbeats 16000000 in
theorem rRun_any (x : Sch) (v : Value) (p : List Vm.Ins) (Ap : Option Addr) (c : Nat) (wl : Wor) (Aw : Option Addr) (cw : Nat) (most : Int) (w : World) (hx : SchV x w v) (hp : SlAt [] w Ap p) (hm : p.length ≤ 9223372036854775807) (hw : SlAt [] w Aw wl) (_hwm : wl.length ≤ 9223372036854775807) (hsh : WorOk (shp (Sc.kinds x)) wl) :
    Calls Tryd.prog 16 #[v, .slice Ap p.length c, .slice Aw wl.length cw, .int .i64 most] w fun e w' => TupR (Vm.run (shp (Sc.kinds x)) p wl most) e ∧ Below w.heap.size w w' := by
  obtain ⟨us, rfl, hu⟩ := hx
  obtain ⟨A, cp, B, d, C, e, rfl, s1, s2, s3, a1, b1, b2, b3, b4, b5, b6⟩ := rep_sch hu
  obtain ⟨n, hn⟩ : ∃ n, p.length = n := ⟨_, rfl⟩
  obtain ⟨nw, hnw⟩ : ∃ m, wl.length = m := ⟨_, rfl⟩
  rw [hnw] at _hwm ⊢
  have HNW := Lib.hid hnw
  clear hnw
  obtain ⟨R, hR⟩ : ∃ R, Vm.run (shp (Sc.kinds x)) p wl most = R := ⟨_, rfl⟩
  have hrun := hR
  unfold Vm.run at hrun
  rw [hR]
  have HX := Lib.hid (show SchV x w _ from ⟨_, rfl, hu⟩)
  have HP := Lib.hid hp
  have HW := Lib.hid hw
  have HSH := Lib.hid hsh
  have CV := Lib.hid (fun W (hb : Below w.heap.size w W) => rValid_any p Ap c W (hp.keep (Chg.of_below hb)) hm)
  obtain ⟨vv, hvv⟩ : ∃ z, Vm.vld p = z := ⟨_, rfl⟩
  rw [hvv] at CV hrun
  rw [hn] at CV ⊢
  have T0 := Lib.hid (rrun_box w #[.int .i64 x.1, .slice A (Sc.kinds x).length cp, .slice B x.2.2.1.length d, .slice C x.2.2.2.length e])
  clear hu s1 s2 s3 a1 b1 b2 b3 b4 b5 b6 hp hw hR hsh
  by_cases h0 : vv = 0
  · subst h0
    rw [if_neg (by simp)] at hrun
    have hall : ∀ i ∈ p, Vm.insOk (p.length : Int) i = true := by
      have hv := hvv
      unfold Vm.vld at hv
      have hl : ¬ 128 < p.length := by intro hc; rw [if_pos hc] at hv; cases hv
      rw [if_neg hl] at hv
      cases hb : p.all (Vm.insOk p.length) with
      | true => exact List.all_eq_true.1 hb
      | false => rw [hb] at hv; simp at hv
    have hl128 : n ≤ 128 := by
      have hv := hvv
      unfold Vm.vld at hv
      by_cases hl : 128 < p.length
      · rw [if_pos hl] at hv; cases hv
      · omega
    have HO := Lib.hid hall
    have CN := Lib.hid (fun W (hb : Below w.heap.size w W) => rNamed_any x p.length p Ap c W _ (by obtain ⟨us, h1, h2⟩ := HX.out; exact ⟨us, h1, Mem.keep h2 (Chg.of_below hb)⟩) (HP.out.keep (Chg.of_below hb)) hm hall)
    rw [hn] at CN
    obtain ⟨nb, hnb⟩ : ∃ z, Vm.named (shp (Sc.kinds x)) p = z := ⟨_, rfl⟩
    rw [hnb] at CN hrun
    have HNB := Lib.hid hnb
    have HN := Lib.hid hn
    rw [hn] at hm
    clear hvv hn hall hnb HX
    generalize (Sc.kinds x).length = n1 at *
    generalize x.2.2.1.length = n2 at *
    generalize x.2.2.2.length = n3 at *
    generalize x.1 = x1' at *
    by_cases hmost : most < 0 ∨ 1000000 < most
    · rw [if_pos hmost] at hrun
      have HR := Lib.hid hrun.symm
      clear hrun
      by_cases q0 : most < 0
      · have q1 : decide (most < 0) = true := decide_eq_true q0
        clear hmost q0
        go_enter Tryd.func16, Tryd.ntmps16
        go_wp2_with (go_at_call 19; ((with_reducible refine (CV.out _ T0.out.bl).mono ?_)); rintro e w2 ⟨rfl, hb2⟩; replace T0 := Lib.hid (T0.out.below hb2); clear hb2; obtain ⟨x0, x1, f0, f1⟩ := cells2 (T0.out.box (.head _)); obtain ⟨y0, y1, y2, y3⟩ := cells4 (T0.out.box (.tail _ (.head _))))
        obtain ⟨k1, k2⟩ := rHeld_res T0.out (.int .i64 0) (.int .i64 0)
        exact fin2r rfl rfl rfl rfl k1 ⟨tupR_mk HR.out, k2⟩
      · have q1 : decide (most < 0) = false := decide_eq_false q0
        have q2 : decide (1000000 < most) = true := decide_eq_true (by omega)
        clear hmost q0
        go_enter Tryd.func16, Tryd.ntmps16
        go_wp2_with (go_at_call 19; ((with_reducible refine (CV.out _ T0.out.bl).mono ?_)); rintro e w2 ⟨rfl, hb2⟩; replace T0 := Lib.hid (T0.out.below hb2); clear hb2; obtain ⟨x0, x1, f0, f1⟩ := cells2 (T0.out.box (.head _)); obtain ⟨y0, y1, y2, y3⟩ := cells4 (T0.out.box (.tail _ (.head _))))
        obtain ⟨k1, k2⟩ := rHeld_res T0.out (.int .i64 0) (.int .i64 0)
        exact fin2r rfl rfl rfl rfl k1 ⟨tupR_mk HR.out, k2⟩
    · rw [if_neg hmost] at hrun
      have q1 : decide (most < 0) = false := decide_eq_false (by omega)
      have q2 : decide (1000000 < most) = false := decide_eq_false (by omega)
      cases nb
      · rw [if_pos rfl] at hrun
        have HR := Lib.hid hrun.symm
        clear hrun hmost
        go_enter Tryd.func16, Tryd.ntmps16
        go_wp2_with (first | (go_at_call 19; ((with_reducible refine (CV.out _ T0.out.bl).mono ?_)); rintro e w2 ⟨rfl, hb2⟩; replace T0 := Lib.hid (T0.out.below hb2); clear hb2; obtain ⟨x0, x1, f0, f1⟩ := cells2 (T0.out.box (.head _)); obtain ⟨y0, y1, y2, y3⟩ := cells4 (T0.out.box (.tail _ (.head _)))) | (go_at_call 41; ((with_reducible refine (CN.out _ T0.out.bl).mono ?_)); rintro e wn ⟨rfl, hb2⟩; replace T0 := Lib.hid (T0.out.below hb2); clear hb2; obtain ⟨x0, x1, f0, f1⟩ := cells2 (T0.out.box (.head _))))
        obtain ⟨k1, k2⟩ := rHeld_res T0.out (.int .i64 0) (.int .i64 0)
        exact fin2r rfl rfl rfl rfl k1 ⟨tupR_mk HR.out, k2⟩
      · rw [if_neg (by decide)] at hrun
        have HNM := Lib.hid (show ∀ i ∈ p, Vm.nmOk (shp (Sc.kinds x)) i = true by have := HNB.out; unfold Vm.named at this; exact List.all_eq_true.1 this)
        obtain ⟨m, rfl⟩ := Int.eq_ofNat_of_zero_le (show 0 ≤ most by omega)
        have hm6 : m ≤ 1000000 := by omega
        have HR := Lib.hid (show Vm.go p wl m 0 0 [0, 0, 0, 0, 0, 0, 0, 0] = R from hrun)
        clear hrun hmost
        have mk := mk8
        go_enter Tryd.func16, Tryd.ntmps16
        go_wp2_with (first | (go_at_call 19; ((with_reducible refine (CV.out _ T0.out.bl).mono ?_)); rintro e w2 ⟨rfl, hb2⟩; replace T0 := Lib.hid (T0.out.below hb2); clear hb2; obtain ⟨x0, x1, f0, f1⟩ := cells2 (T0.out.box (.head _)); obtain ⟨y0, y1, y2, y3⟩ := cells4 (T0.out.box (.tail _ (.head _)))) | (go_at_call 41; ((with_reducible refine (CN.out _ T0.out.bl).mono ?_)); rintro e wn ⟨rfl, hb2⟩; replace T0 := Lib.hid (T0.out.below hb2); clear hb2; obtain ⟨x0, x1, f0, f1⟩ := cells2 (T0.out.box (.head _))))
        replace T0 := Lib.hid (T0.out.new (regV [0, 0, 0, 0, 0, 0, 0, 0]) 3 rfl)
        obtain ⟨Nr, hNr⟩ : ∃ N, wn.heap.size = N := ⟨_, rfl⟩
        rw [hNr] at T0 ⊢
        clear hNr
        go_loopg [12, 13] m (fun r a b wr => ∃ (at_ : Nat) (k : Int) (rl : List Int) (M : List Nat), a = .int .i64 at_ ∧ b = .int .i64 k ∧ k + r = m ∧ 0 ≤ k ∧ at_ ≤ n ∧ rl.length = 8 ∧ Held w [] M [(Nr, 3, regV rl), (w.heap.size + 1, 47, #[.int .i64 0, .int .i64 0]), (w.heap.size, 27, #[.int .i64 x1', .slice A n1 cp, .slice B n2 d, .slice C n3 e])] [] wr ∧ Vm.go p wl r k at_ rl = R)
        case atStart => exact ⟨0, 0, _, _, rfl, rfl, by omega, by omega, by omega, rfl, T0.out, HR.out⟩
        case round =>
          obtain ⟨at_, k, rl, M, rfl, rfl, hk, hk0, hat, h8, hH, hg⟩ := hrel
          have T1 := Lib.hid hH; have H8 := Lib.hid h8
          clear hH h8 T0 HR
          rw [Vm.go_eq] at hg
          rw [HN.out] at hg
          by_cases ha : at_ = n
          · subst ha
            rw [if_pos rfl] at hg
            have HG := Lib.hid hg.symm
            clear hg
            obtain ⟨x0, x1, f0, f1⟩ := cells2 (T1.out.box (.tail _ (.head _)))
            go_wp2_with fail
            obtain ⟨k1, k2⟩ := rHeld_res (T1.out.less (L' := []) (fun _ h => by cases h) (.cons _ (List.Sublist.refl _))) (.int .i64 (0)) (.int .i64 (k))
            exact fin2r rfl rfl rfl rfl k1 ⟨tupR_mk HG.out, k2⟩
          · rw [if_neg (by omega)] at hg
            have hlt : at_ < n := by omega
            have t0 : (at_ : Int) < (n : Int) := by omega
            cases gk with
            | zero =>
              have hkm : k = (m : Int) := by omega
              subst hkm
              have HG := Lib.hid hg.symm
              clear hg
              obtain ⟨x0, x1, f0, f1⟩ := cells2 (T1.out.box (.tail _ (.head _)))
              go_wp2_with fail
              obtain ⟨k1, k2⟩ := rHeld_res (T1.out.less (L' := []) (fun _ h => by cases h) (.cons _ (List.Sublist.refl _))) (.int .i64 (0)) (.int .i64 (0))
              exact fin2r rfl rfl rfl rfl k1 ⟨tupR_mk HG.out, k2⟩
            | succ r' =>
              dsimp only at hg
              have t1 : (k == (m : Int)) = false := by simp; omega
              have hkp : at_ < p.length := by rw [HN.out]; exact hlt
              have a0 : (0 : Int) ≤ (at_ : Int) := Int.natCast_nonneg _
              have a2 : (at_ : Int) < (n : Int) := by omega
              obtain ⟨b', o', rfl, hbg, e0, e1, e2, e3, i0, i1, i2, i3⟩ := Vm.ins_at (HP.out.keep (Chg.of_below T1.out.bl)) at_ hkp
              have hok := HO.out _ (List.getElem_mem hkp)
              rw [HN.out] at hok
              rw [show (at_ : Int).toNat = at_ from rfl, getD_in hkp] at hg
              obtain ⟨i, hi⟩ : ∃ i, p[at_] = i := ⟨_, rfl⟩
              rw [hi] at e0 e1 e2 e3 i0 i1 i2 i3 hok hg
              have HI := Lib.hid hi
              clear hi
              obtain ⟨op, a1, b1, c1⟩ := i
              dsimp only at e0 e1 e2 e3 i0 i1 i2 i3
              have hk1 : k ≤ 1000000 := by omega
              have key := ins_cases hok
              clear hok
              rcases key with ⟨rfl, _, _⟩ | ⟨rfl, a10, a17⟩ | ⟨rfl, a10, a17, b10, b17, c10, c17⟩ | ⟨rfl, a10, a17, b10, b17, c10, c17⟩ | ⟨rfl, a10, a17, b10, b15⟩ | ⟨rfl, a10, a17, b10, b15, c10, c19⟩ | ⟨rfl, a10, a1n⟩ | ⟨rfl, a10, a17, b10, b17, c10, c1n⟩ | ⟨rfl, a10, a17, b10, b17, c10, c1n⟩
              · rw [show Vm.step wl (0, a1, b1, c1) (at_ : Int) rl = .stop a1 by simp [Vm.step]] at hg
                have HG := Lib.hid hg.symm
                clear hg
                have T2 := Lib.hid (T1.out.new #[.int .i64 0, .int .i64 a1, .int .i64 b1, .int .i64 c1] 58 rfl)
                clear T1
                obtain ⟨x0, x1, f0, f1⟩ := cells2 (T2.out.box (.tail _ (.tail _ (.head _))))
                go_wp2_with fail
                obtain ⟨k1, k2⟩ := rHeld_res (T2.out.less (L' := []) (fun _ h => by cases h) (.cons _ (.cons _ (List.Sublist.refl _)))) (.int .i64 (a1)) (.int .i64 (k + 1))
                exact fin2r rfl rfl rfl rfl k1 ⟨tupR_mk HG.out, k2⟩
              · obtain ⟨a1, rfl⟩ := Int.eq_ofNat_of_zero_le a10
                rw [show Vm.step wl (1, (a1 : Int), b1, c1) (at_ : Int) rl = .on ((at_ : Int) + 1) (rl.set a1 b1) by simp [Vm.step, Vm.setR]] at hg
                dsimp only at hg
                rw [show ((at_ : Int) + 1) = ((at_ + 1 : Nat) : Int) by omega] at hg
                have HG := Lib.hid hg
                clear hg
                have T2 := Lib.hid (T1.out.new #[.int .i64 1, .int .i64 (a1 : Int), .int .i64 b1, .int .i64 c1] 58 rfl)
                clear T1
                obtain ⟨d0, d1, d2, d3⟩ := cells4 (T2.out.box (.head _))
                have g8 := regc' (T2.out.box (.tail _ (.head _))) H8.out a1 (by omega)
                have g9 := (T2.out.box (.tail _ (.head _))).frozen a1
                go_wp2_with fail
                replace T2 := Lib.hid (Held.set_ (bx1 := [_]) T2.out a1 (.int .i64 (b1)))
                go_roundg r'
                case measure => omega
                case rel =>
                  have U := T2.out.less (L' := []) (fun _ h => by cases h) (.cons _ (List.Sublist.refl _))
                  rw [regV_set] at U
                  exact ⟨at_ + 1, k + 1, _, _, by first | rfl | go_num, by go_num, by omega, by omega, by omega, by rw [List.length_set]; exact H8.out, U, HG.out⟩
              · obtain ⟨a1, rfl⟩ := Int.eq_ofNat_of_zero_le a10
                obtain ⟨b1, rfl⟩ := Int.eq_ofNat_of_zero_le b10
                obtain ⟨c1, rfl⟩ := Int.eq_ofNat_of_zero_le c10
                rw [show Vm.step wl (2, (a1 : Int), (b1 : Int), (c1 : Int)) (at_ : Int) rl = .on ((at_ : Int) + 1) (rl.set a1 (IntKind.i64.wrap (rl.getD b1 0 + rl.getD c1 0))) by simp [Vm.step, Vm.setR, Vm.reg]] at hg
                dsimp only at hg
                rw [show ((at_ : Int) + 1) = ((at_ + 1 : Nat) : Int) by omega] at hg
                have HG := Lib.hid hg
                clear hg
                obtain ⟨u, hu⟩ : ∃ u, rl.getD b1 0 = u := ⟨_, rfl⟩
                obtain ⟨v, hv⟩ : ∃ v, rl.getD c1 0 = v := ⟨_, rfl⟩
                rw [hu, hv] at HG
                obtain ⟨S, hS⟩ : ∃ S, IntKind.i64.wrap (u + v) = S := ⟨_, rfl⟩
                rw [hS] at HG
                have T2 := Lib.hid (T1.out.new #[.int .i64 2, .int .i64 (a1 : Int), .int .i64 (b1 : Int), .int .i64 (c1 : Int)] 58 rfl)
                clear T1
                go_upto_region 25 with fail
                have HU := Lib.hid hu; have HVV := Lib.hid hv
                clear hu hv
                apply wp_region_typed (C := fun w' => Held w [] _ _ [] w') (n := 192) (m := 14) (l1 := [_, _, _, _, _, _, _, _, _, _, _, _, _, _]) (l2 := [_, _])
                · rfl
                · rfl
                · kernel_rfl
                · rfl
                · kernel_rfl
                · exact T2.out.drew
                · exact fun u u' h hb => h.below hb
                repeat ((apply wpT_exact; · (intro w' hC hf; unfold Gives; obtain ⟨d0, d1, d2, d3⟩ := cells4 (hC.box (.head _)); have g0 := regc' (hC.box (.tail _ (.head _))) H8.out b1 (by omega); rw [HU.out] at g0; have g1 := regc' (hC.box (.tail _ (.head _))) H8.out c1 (by omega); rw [HVV.out] at g1; clear hf hC; go_wp2_with (fail); apply postT_val rfl (Below.refl _ _); simp only [valAt, Array.getD_eq_getD_getElem?, List.getElem?_toArray, List.getElem?_cons_succ, List.getElem?_cons_zero, Option.getD_some]; exact rfl)); (try simp only [Act.put, List.setIfInBounds_toArray, List.set_cons_zero, List.set_cons_succ]))
                apply wpT_done
                intro w4 hC _
                replace T2 := Lib.hid hC
                clear hC
                obtain ⟨d0, d1, d2, d3⟩ := cells4 (T2.out.box (.head _))
                have g8 := regc' (T2.out.box (.tail _ (.head _))) H8.out a1 (by omega)
                have g9 := (T2.out.box (.tail _ (.head _))).frozen a1
                go_wp2_with fail
                replace T2 := Lib.hid (Held.set_ (bx1 := [_]) T2.out a1 (.int .i64 (S)))
                go_roundg r'
                case measure => omega
                case rel =>
                  have U := T2.out.less (L' := []) (fun _ h => by cases h) (.cons _ (List.Sublist.refl _))
                  rw [regV_set] at U
                  exact ⟨at_ + 1, k + 1, _, _, by first | rfl | go_num, by go_num, by omega, by omega, by omega, by rw [List.length_set]; exact H8.out, U, HG.out⟩
              · obtain ⟨a1, rfl⟩ := Int.eq_ofNat_of_zero_le a10
                obtain ⟨b1, rfl⟩ := Int.eq_ofNat_of_zero_le b10
                obtain ⟨c1, rfl⟩ := Int.eq_ofNat_of_zero_le c10
                rw [show Vm.step wl (3, (a1 : Int), (b1 : Int), (c1 : Int)) (at_ : Int) rl = .on ((at_ : Int) + 1) (rl.set a1 (IntKind.i64.wrap (rl.getD b1 0 - rl.getD c1 0))) by simp [Vm.step, Vm.setR, Vm.reg]] at hg
                dsimp only at hg
                rw [show ((at_ : Int) + 1) = ((at_ + 1 : Nat) : Int) by omega] at hg
                have HG := Lib.hid hg
                clear hg
                obtain ⟨u, hu⟩ : ∃ u, rl.getD b1 0 = u := ⟨_, rfl⟩
                obtain ⟨v, hv⟩ : ∃ v, rl.getD c1 0 = v := ⟨_, rfl⟩
                rw [hu, hv] at HG
                obtain ⟨S, hS⟩ : ∃ S, IntKind.i64.wrap (u - v) = S := ⟨_, rfl⟩
                rw [hS] at HG
                have T2 := Lib.hid (T1.out.new #[.int .i64 3, .int .i64 (a1 : Int), .int .i64 (b1 : Int), .int .i64 (c1 : Int)] 58 rfl)
                clear T1
                go_upto_region 27 with fail
                have HU := Lib.hid hu; have HVV := Lib.hid hv
                clear hu hv
                apply wp_region_typed (C := fun w' => Held w [] _ _ [] w') (n := 192) (m := 14) (l1 := [_, _, _, _, _, _, _, _, _, _, _, _, _, _]) (l2 := [_, _])
                · rfl
                · rfl
                · kernel_rfl
                · rfl
                · kernel_rfl
                · exact T2.out.drew
                · exact fun u u' h hb => h.below hb
                repeat ((apply wpT_exact; · (intro w' hC hf; unfold Gives; obtain ⟨d0, d1, d2, d3⟩ := cells4 (hC.box (.head _)); have g0 := regc' (hC.box (.tail _ (.head _))) H8.out b1 (by omega); rw [HU.out] at g0; have g1 := regc' (hC.box (.tail _ (.head _))) H8.out c1 (by omega); rw [HVV.out] at g1; clear hf hC; go_wp2_with (fail); apply postT_val rfl (Below.refl _ _); simp only [valAt, Array.getD_eq_getD_getElem?, List.getElem?_toArray, List.getElem?_cons_succ, List.getElem?_cons_zero, Option.getD_some]; exact rfl)); (try simp only [Act.put, List.setIfInBounds_toArray, List.set_cons_zero, List.set_cons_succ]))
                apply wpT_done
                intro w4 hC _
                replace T2 := Lib.hid hC
                clear hC
                obtain ⟨d0, d1, d2, d3⟩ := cells4 (T2.out.box (.head _))
                have g8 := regc' (T2.out.box (.tail _ (.head _))) H8.out a1 (by omega)
                have g9 := (T2.out.box (.tail _ (.head _))).frozen a1
                go_wp2_with fail
                replace T2 := Lib.hid (Held.set_ (bx1 := [_]) T2.out a1 (.int .i64 (S)))
                go_roundg r'
                case measure => omega
                case rel =>
                  have U := T2.out.less (L' := []) (fun _ h => by cases h) (.cons _ (List.Sublist.refl _))
                  rw [regV_set] at U
                  exact ⟨at_ + 1, k + 1, _, _, by first | rfl | go_num, by go_num, by omega, by omega, by omega, by rw [List.length_set]; exact H8.out, U, HG.out⟩
              · obtain ⟨a1, rfl⟩ := Int.eq_ofNat_of_zero_le a10
                obtain ⟨b1, rfl⟩ := Int.eq_ofNat_of_zero_le b10
                rw [show Vm.step wl (4, (a1 : Int), (b1 : Int), c1) (at_ : Int) rl = .on ((at_ : Int) + 1) (rl.set a1 (Vm.cnt wl b1)) by simp [Vm.step, Vm.setR]] at hg
                dsimp only at hg
                rw [show ((at_ : Int) + 1) = ((at_ + 1 : Nat) : Int) by omega] at hg
                have HG := Lib.hid hg
                clear hg
                have hnb : b1 < (shp (Sc.kinds x)).length := by have := HNM.out _ (List.getElem_mem hkp); rw [HI.out] at this; simp [Vm.nmOk] at this; omega
                obtain ⟨hwl, hrec⟩ := HSH.out
                have hbw : b1 < wl.length := by omega
                obtain ⟨bw, ow, Bk, ck, rfl, _, gw, sk, _, _⟩ := lst_at HW.out b1 hbw
                obtain ⟨lk, hlk⟩ : ∃ m, wl[b1].length = m := ⟨_, rfl⟩
                have GW := Lib.hid gw
                rw [hlk] at GW
                have hcnt : Vm.cnt wl b1 = (lk : Int) := by unfold Vm.cnt; rw [if_neg (by omega), show ((b1 : Nat) : Int).toNat = b1 from rfl, getD_in hbw, hlk]
                rw [hcnt] at HG
                have w0 : (0 : Int) ≤ (b1 : Int) := Int.natCast_nonneg _
                have w1 : (b1 : Int) < (nw : Int) := by have := HNW.out; omega
                clear hcnt hlk gw sk hrec hwl hnb
                have T2 := Lib.hid (T1.out.new #[.int .i64 4, .int .i64 (a1 : Int), .int .i64 (b1 : Int), .int .i64 c1] 58 rfl)
                clear T1
                go_upto_region 29 with fail
                apply wp_region_typed (C := fun w' => Held w [] _ _ [] w') (n := 192) (m := 9) (l1 := [_, _, _, _, _, _, _, _, _]) (l2 := [_, _])
                · rfl
                · rfl
                · kernel_rfl
                · rfl
                · kernel_rfl
                · exact T2.out.drew
                · exact fun u u' h hb => h.below hb
                repeat ((apply wpT_exact; · (intro w' hC hf; unfold Gives; obtain ⟨d0, d1, d2, d3⟩ := cells4 (hC.box (.head _)); have g5 := (hC.bl.cell (p := ⟨bw, ow + b1, none⟩) (World.block_lt_of_cell? _ _ GW.out)).trans GW.out; clear hf hC; go_wp2_with (fail); apply postT_val rfl (Below.refl _ _); simp only [valAt, Array.getD_eq_getD_getElem?, List.getElem?_toArray, List.getElem?_cons_succ, List.getElem?_cons_zero, Option.getD_some]; exact rfl)); (try simp only [Act.put, List.setIfInBounds_toArray, List.set_cons_zero, List.set_cons_succ]))
                apply wpT_done
                intro w4 hC _
                replace T2 := Lib.hid hC
                clear hC
                obtain ⟨d0, d1, d2, d3⟩ := cells4 (T2.out.box (.head _))
                have g8 := regc' (T2.out.box (.tail _ (.head _))) H8.out a1 (by omega)
                have g9 := (T2.out.box (.tail _ (.head _))).frozen a1
                go_wp2_with fail
                replace T2 := Lib.hid (Held.set_ (bx1 := [_]) T2.out a1 (.int .i64 ((lk : Int))))
                go_roundg r'
                case measure => omega
                case rel =>
                  have U := T2.out.less (L' := []) (fun _ h => by cases h) (.cons _ (List.Sublist.refl _))
                  rw [regV_set] at U
                  exact ⟨at_ + 1, k + 1, _, _, by first | rfl | go_num, by go_num, by omega, by omega, by omega, by rw [List.length_set]; exact H8.out, U, HG.out⟩
              · obtain ⟨a1, rfl⟩ := Int.eq_ofNat_of_zero_le a10
                obtain ⟨b1, rfl⟩ := Int.eq_ofNat_of_zero_le b10
                obtain ⟨c1, rfl⟩ := Int.eq_ofNat_of_zero_le c10
                rw [show Vm.step wl (5, (a1 : Int), (b1 : Int), (c1 : Int)) (at_ : Int) rl = if rl.getD a1 0 < 0 ∨ Vm.cnt wl b1 ≤ rl.getD a1 0 then .stop 251 else .on ((at_ : Int) + 1) (rl.set a1 (Vm.val wl b1 (rl.getD a1 0) c1)) by simp [Vm.step, Vm.setR, Vm.reg]] at hg
                obtain ⟨u, hu⟩ : ∃ u, rl.getD a1 0 = u := ⟨_, rfl⟩
                rw [hu] at hg
                have HU := Lib.hid hu
                clear hu
                have hnb : b1 < (shp (Sc.kinds x)).length ∧ c1 < (shp (Sc.kinds x)).getD b1 0 := by have := HNM.out _ (List.getElem_mem hkp); rw [HI.out] at this; simp [Vm.nmOk] at this; rw [List.getD_eq_getElem?_getD]; omega
                obtain ⟨hnb, hnc⟩ := hnb
                obtain ⟨hwl, hrec⟩ := HSH.out
                have hbw : b1 < wl.length := by omega
                obtain ⟨bw, ow, Bk, ck, rfl, _, gw, sk, _, _⟩ := lst_at HW.out b1 hbw
                obtain ⟨lk, hlk⟩ : ∃ m, wl[b1].length = m := ⟨_, rfl⟩
                have GW := Lib.hid gw
                rw [hlk] at GW
                have hcnt : Vm.cnt wl b1 = (lk : Int) := by unfold Vm.cnt; rw [if_neg (by omega), show ((b1 : Nat) : Int).toNat = b1 from rfl, getD_in hbw, hlk]
                rw [hcnt] at hg
                have T2 := Lib.hid (T1.out.new #[.int .i64 5, .int .i64 (a1 : Int), .int .i64 (b1 : Int), .int .i64 (c1 : Int)] 58 rfl)
                clear T1
                have HBW := Lib.hid hbw
                have w0 : (0 : Int) ≤ (b1 : Int) := Int.natCast_nonneg _
                have w1 : (b1 : Int) < (nw : Int) := by have := HNW.out; omega
                clear hcnt gw
                by_cases hu0 : u < 0
                · rw [if_pos (Or.inl hu0)] at hg
                  have HG := Lib.hid hg.symm
                  have t2 : decide (u < 0) = true := decide_eq_true hu0
                  clear hg hu0 sk hlk
                  go_upto_region 31 with fail
                  apply wp_region_typed (C := fun w' => Held w [] _ _ [] w') (n := 192) (m := 20) (l1 := [_, _, _, _, _, _, _, _, _, _, _, _, _, _, _, _, _, _, _, _]) (l2 := [])
                  · rfl
                  · rfl
                  · kernel_rfl
                  · rfl
                  · kernel_rfl
                  · exact T2.out.drew
                  · exact fun u u' h hb => h.below hb
                  repeat ((apply wpT_exact; · (intro w' hC hf; unfold Gives; obtain ⟨d0, d1, d2, d3⟩ := cells4 (hC.box (.head _)); have g0 := regc' (hC.box (.tail _ (.head _))) H8.out a1 (by omega); rw [HU.out] at g0; clear hf hC; go_wp2_with (fail); apply postT_val rfl (Below.refl _ _); simp only [valAt, Array.getD_eq_getD_getElem?, List.getElem?_toArray, List.getElem?_cons_succ, List.getElem?_cons_zero, Option.getD_some]; exact rfl)); (try simp only [Act.put, List.setIfInBounds_toArray, List.set_cons_zero, List.set_cons_succ]))
                  apply wpT_done
                  intro w4 hC _
                  replace T2 := Lib.hid hC
                  clear hC
                  obtain ⟨x0, x1, f0, f1⟩ := cells2 (T2.out.box (.tail _ (.tail _ (.head _))))
                  go_wp2_with fail
                  obtain ⟨k1, k2⟩ := rHeld_res (T2.out.less (L' := []) (fun _ h => by cases h) (.cons _ (.cons _ (List.Sublist.refl _)))) (.int .i64 (251)) (.int .i64 (k + 1))
                  exact fin2r rfl rfl rfl rfl k1 ⟨tupR_mk HG.out, k2⟩
                · have t2 : decide (u < 0) = false := decide_eq_false hu0
                  obtain ⟨u, rfl⟩ := Int.eq_ofNat_of_zero_le (show 0 ≤ u by omega)
                  by_cases hu1 : (lk : Int) ≤ (u : Int)
                  · rw [if_pos (Or.inr hu1)] at hg
                    have HG := Lib.hid hg.symm
                    have t3 : decide (lk ≤ u) = true := decide_eq_true (by omega)
                    clear hg hu0 hu1 sk hlk
                    go_upto_region 31 with fail
                    apply wp_region_typed (C := fun w' => Held w [] _ _ [] w') (n := 192) (m := 20) (l1 := [_, _, _, _, _, _, _, _, _, _, _, _, _, _, _, _, _, _, _, _]) (l2 := [])
                    · rfl
                    · rfl
                    · kernel_rfl
                    · rfl
                    · kernel_rfl
                    · exact T2.out.drew
                    · exact fun u u' h hb => h.below hb
                    repeat ((apply wpT_exact; · (intro w' hC hf; unfold Gives; obtain ⟨d0, d1, d2, d3⟩ := cells4 (hC.box (.head _)); have g0 := regc' (hC.box (.tail _ (.head _))) H8.out a1 (by omega); rw [HU.out] at g0; have g5 := (hC.bl.cell (p := ⟨bw, ow + b1, none⟩) (World.block_lt_of_cell? _ _ GW.out)).trans GW.out; clear hf hC; go_wp2_with (fail); apply postT_val rfl (Below.refl _ _); simp only [valAt, Array.getD_eq_getD_getElem?, List.getElem?_toArray, List.getElem?_cons_succ, List.getElem?_cons_zero, Option.getD_some]; exact rfl)); (try simp only [Act.put, List.setIfInBounds_toArray, List.set_cons_zero, List.set_cons_succ]))
                    apply wpT_done
                    intro w4 hC _
                    replace T2 := Lib.hid hC
                    clear hC
                    obtain ⟨x0, x1, f0, f1⟩ := cells2 (T2.out.box (.tail _ (.tail _ (.head _))))
                    go_wp2_with fail
                    obtain ⟨k1, k2⟩ := rHeld_res (T2.out.less (L' := []) (fun _ h => by cases h) (.cons _ (.cons _ (List.Sublist.refl _)))) (.int .i64 (251)) (.int .i64 (k + 1))
                    exact fin2r rfl rfl rfl rfl k1 ⟨tupR_mk HG.out, k2⟩
                  · rw [if_neg (by omega)] at hg
                    dsimp only at hg
                    rw [show ((at_ : Int) + 1) = ((at_ + 1 : Nat) : Int) by omega] at hg
                    have HG := Lib.hid hg
                    have t3 : decide (lk ≤ u) = false := decide_eq_false (by omega)
                    have hul : u < wl[b1].length := Nat.lt_of_lt_of_eq (show u < lk by omega) hlk.symm
                    obtain ⟨bu, ou, Bu, cu, rfl, _, gu, su, _, _⟩ := lst_at sk u hul
                    have hcl : c1 < wl[b1][u].length := by
                      have := hrec b1 hnb _ (show wl[b1][u] ∈ wl.getD b1 [] by rw [getD_in HBW.out]; exact List.getElem_mem hul)
                      omega
                    obtain ⟨bc, oc, rfl, _, gc, hci⟩ := int_at su c1 hcl
                    have hval : Vm.val wl b1 u c1 = wl[b1][u][c1] := by
                      rw [val_nat]
                      exact (congrArg (fun l => (List.getD l u []).getD c1 0) (getD_in HBW.out)).trans ((congrArg (fun l => List.getD l c1 0) (getD_in hul)).trans (getD_in hcl))
                    obtain ⟨V, hV⟩ : ∃ V, wl[b1][u][c1] = V := ⟨_, rfl⟩
                    replace HG := Lib.hid ((congrArg (fun z => Vm.go p wl r' (k + 1) ((at_ + 1 : Nat) : Int) (rl.set a1 z)) (hval.trans hV)).symm.trans HG.out)
                    replace gc := gc.trans (congrArg (fun z => some (Value.int .i64 z)) hV)
                    obtain ⟨lc, hlc⟩ : ∃ m, wl[b1][u].length = m := ⟨_, rfl⟩
                    replace gu := gu.trans (congrArg (fun z => some (Value.slice _ z cu)) hlc)
                    replace hcl : c1 < lc := Nat.lt_of_lt_of_eq hcl hlc
                    have GU := Lib.hid gu
                    have GC := Lib.hid gc
                    have w3 : (0 : Int) ≤ (u : Int) := Int.natCast_nonneg _
                    have w4 : (u : Int) < (lk : Int) := by omega
                    have w5 : (0 : Int) ≤ (c1 : Int) := Int.natCast_nonneg _
                    have w6 : (c1 : Int) < (lc : Int) := by omega
                    clear hg gu gc sk su hlc hval hlk hu0 hu1 hV hci
                    go_upto_region 31 with fail
                    apply wp_region_typed (C := fun w' => Held w [] _ _ [] w') (n := 192) (m := 20) (l1 := [_, _, _, _, _, _, _, _, _, _, _, _, _, _, _, _, _, _, _, _]) (l2 := [])
                    · rfl
                    · rfl
                    · kernel_rfl
                    · rfl
                    · kernel_rfl
                    · exact T2.out.drew
                    · exact fun u u' h hb => h.below hb
                    repeat ((apply wpT_exact; · (intro w' hC hf; unfold Gives; obtain ⟨d0, d1, d2, d3⟩ := cells4 (hC.box (.head _)); have g0 := regc' (hC.box (.tail _ (.head _))) H8.out a1 (by omega); rw [HU.out] at g0; have g5 := (hC.bl.cell (p := ⟨bw, ow + b1, none⟩) (World.block_lt_of_cell? _ _ GW.out)).trans GW.out; clear hf hC; go_wp2_with (fail); apply postT_val rfl (Below.refl _ _); simp only [valAt, Array.getD_eq_getD_getElem?, List.getElem?_toArray, List.getElem?_cons_succ, List.getElem?_cons_zero, Option.getD_some]; exact rfl)); (try simp only [Act.put, List.setIfInBounds_toArray, List.set_cons_zero, List.set_cons_succ]))
                    apply wpT_done
                    intro w4 hC _
                    replace T2 := Lib.hid hC
                    clear hC
                    go_upto_region 33 with fail
                    apply wp_region_typed (C := fun w' => Held w [] _ _ [] w') (n := 192) (m := 19) (l1 := [_, _, _, _, _, _, _, _, _, _, _, _, _, _, _, _, _, _, _]) (l2 := [_, _])
                    · rfl
                    · rfl
                    · kernel_rfl
                    · rfl
                    · kernel_rfl
                    · exact T2.out.drew
                    · exact fun u u' h hb => h.below hb
                    repeat ((apply wpT_exact; · (intro w' hC hf; unfold Gives; obtain ⟨d0, d1, d2, d3⟩ := cells4 (hC.box (.head _)); have g0 := regc' (hC.box (.tail _ (.head _))) H8.out a1 (by omega); rw [HU.out] at g0; have g5 := (hC.bl.cell (p := ⟨bw, ow + b1, none⟩) (World.block_lt_of_cell? _ _ GW.out)).trans GW.out; have g6 := (hC.bl.cell (p := ⟨bu, ou + u, none⟩) (World.block_lt_of_cell? _ _ GU.out)).trans GU.out; have g7 := (hC.bl.cell (p := ⟨bc, oc + c1, none⟩) (World.block_lt_of_cell? _ _ GC.out)).trans GC.out; clear hf hC; go_wp2_with (fail); apply postT_val rfl (Below.refl _ _); simp only [valAt, Array.getD_eq_getD_getElem?, List.getElem?_toArray, List.getElem?_cons_succ, List.getElem?_cons_zero, Option.getD_some]; exact rfl)); (try simp only [Act.put, List.setIfInBounds_toArray, List.set_cons_zero, List.set_cons_succ]))
                    apply wpT_done
                    intro w4 hC _
                    replace T2 := Lib.hid hC
                    clear hC
                    obtain ⟨d0, d1, d2, d3⟩ := cells4 (T2.out.box (.head _))
                    have g8 := regc' (T2.out.box (.tail _ (.head _))) H8.out a1 (by omega)
                    have g9 := (T2.out.box (.tail _ (.head _))).frozen a1
                    go_wp2_with fail
                    replace T2 := Lib.hid (Held.set_ (bx1 := [_]) T2.out a1 (.int .i64 (V)))
                    go_roundg r'
                    case measure => omega
                    case rel =>
                      have U := T2.out.less (L' := []) (fun _ h => by cases h) (.cons _ (List.Sublist.refl _))
                      rw [regV_set] at U
                      exact ⟨at_ + 1, k + 1, _, _, by first | rfl | go_num, by go_num, by omega, by omega, by omega, by rw [List.length_set]; exact H8.out, U, HG.out⟩
              · obtain ⟨a1, rfl⟩ := Int.eq_ofNat_of_zero_le a10
                rw [show Vm.step wl (6, (a1 : Int), b1, c1) (at_ : Int) rl = .on (a1 : Int) rl by simp [Vm.step]] at hg
                dsimp only at hg
                have HG := Lib.hid hg
                clear hg
                have T2 := Lib.hid (T1.out.new #[.int .i64 6, .int .i64 (a1 : Int), .int .i64 b1, .int .i64 c1] 58 rfl)
                clear T1
                obtain ⟨d0, d1, d2, d3⟩ := cells4 (T2.out.box (.head _))
                go_wp2_with fail
                go_roundg r'
                case measure => omega
                case rel => exact ⟨a1, k + 1, rl, _, by first | rfl | go_num, by go_num, by omega, by omega, by omega, H8.out, T2.out.less (L' := []) (fun _ h => by cases h) (.cons _ (List.Sublist.refl _)), HG.out⟩
              · obtain ⟨a1, rfl⟩ := Int.eq_ofNat_of_zero_le a10
                obtain ⟨b1, rfl⟩ := Int.eq_ofNat_of_zero_le b10
                obtain ⟨c1, rfl⟩ := Int.eq_ofNat_of_zero_le c10
                rw [show Vm.step wl (7, (a1 : Int), (b1 : Int), (c1 : Int)) (at_ : Int) rl = .on (if rl.getD a1 0 < rl.getD b1 0 then (c1 : Int) else (at_ : Int) + 1) rl by simp [Vm.step, Vm.reg]] at hg
                dsimp only at hg
                obtain ⟨u, hu⟩ : ∃ u, rl.getD a1 0 = u := ⟨_, rfl⟩
                obtain ⟨v, hv⟩ : ∃ v, rl.getD b1 0 = v := ⟨_, rfl⟩
                rw [hu, hv] at hg
                have HU := Lib.hid hu; have HVV := Lib.hid hv
                clear hu hv
                have T2 := Lib.hid (T1.out.new #[.int .i64 7, .int .i64 (a1 : Int), .int .i64 (b1 : Int), .int .i64 (c1 : Int)] 58 rfl)
                clear T1
                by_cases huv : u < v
                · rw [if_pos huv] at hg
                  have HG := Lib.hid hg
                  have t2 : decide (u < v) = true := by simpa using huv
                  clear hg huv
                  go_upto_region 37 with fail
                  apply wp_region_typed (C := fun w' => Held w [] _ _ [] w') (n := 192) (m := 11) (l1 := [_, _, _, _, _, _, _, _, _, _, _]) (l2 := [])
                  · rfl
                  · rfl
                  · kernel_rfl
                  · rfl
                  · kernel_rfl
                  · exact T2.out.drew
                  · exact fun u u' h hb => h.below hb
                  repeat ((apply wpT_exact; · (intro w' hC hf; unfold Gives; obtain ⟨d0, d1, d2, d3⟩ := cells4 (hC.box (.head _)); have g0 := regc' (hC.box (.tail _ (.head _))) H8.out a1 (by omega); rw [HU.out] at g0; have g1 := regc' (hC.box (.tail _ (.head _))) H8.out b1 (by omega); rw [HVV.out] at g1; clear hf hC; go_wp2_with (fail); apply postT_val rfl (Below.refl _ _); simp only [valAt, Array.getD_eq_getD_getElem?, List.getElem?_toArray, List.getElem?_cons_succ, List.getElem?_cons_zero, Option.getD_some]; exact rfl)); (try simp only [Act.put, List.setIfInBounds_toArray, List.set_cons_zero, List.set_cons_succ]))
                  apply wpT_done
                  intro w4 hC _
                  replace T2 := Lib.hid hC
                  clear hC
                  obtain ⟨d0, d1, d2, d3⟩ := cells4 (T2.out.box (.head _))
                  go_wp2_with fail
                  go_roundg r'
                  case measure => omega
                  case rel => exact ⟨c1, k + 1, rl, _, by first | rfl | go_num, by go_num, by omega, by omega, by omega, H8.out, T2.out.less (L' := []) (fun _ h => by cases h) (.cons _ (List.Sublist.refl _)), HG.out⟩
                · rw [if_neg huv] at hg
                  rw [show ((at_ : Int) + 1) = ((at_ + 1 : Nat) : Int) by omega] at hg
                  have HG := Lib.hid hg
                  have t2 : decide (u < v) = false := by simpa using huv
                  clear hg huv
                  go_upto_region 37 with fail
                  apply wp_region_typed (C := fun w' => Held w [] _ _ [] w') (n := 192) (m := 11) (l1 := [_, _, _, _, _, _, _, _, _, _, _]) (l2 := [])
                  · rfl
                  · rfl
                  · kernel_rfl
                  · rfl
                  · kernel_rfl
                  · exact T2.out.drew
                  · exact fun u u' h hb => h.below hb
                  repeat ((apply wpT_exact; · (intro w' hC hf; unfold Gives; obtain ⟨d0, d1, d2, d3⟩ := cells4 (hC.box (.head _)); have g0 := regc' (hC.box (.tail _ (.head _))) H8.out a1 (by omega); rw [HU.out] at g0; have g1 := regc' (hC.box (.tail _ (.head _))) H8.out b1 (by omega); rw [HVV.out] at g1; clear hf hC; go_wp2_with (fail); apply postT_val rfl (Below.refl _ _); simp only [valAt, Array.getD_eq_getD_getElem?, List.getElem?_toArray, List.getElem?_cons_succ, List.getElem?_cons_zero, Option.getD_some]; exact rfl)); (try simp only [Act.put, List.setIfInBounds_toArray, List.set_cons_zero, List.set_cons_succ]))
                  apply wpT_done
                  intro w4 hC _
                  replace T2 := Lib.hid hC
                  clear hC
                  obtain ⟨d0, d1, d2, d3⟩ := cells4 (T2.out.box (.head _))
                  go_wp2_with fail
                  go_roundg r'
                  case measure => omega
                  case rel => exact ⟨at_ + 1, k + 1, rl, _, by first | rfl | go_num, by go_num, by omega, by omega, by omega, H8.out, T2.out.less (L' := []) (fun _ h => by cases h) (.cons _ (List.Sublist.refl _)), HG.out⟩
              · obtain ⟨a1, rfl⟩ := Int.eq_ofNat_of_zero_le a10
                obtain ⟨b1, rfl⟩ := Int.eq_ofNat_of_zero_le b10
                obtain ⟨c1, rfl⟩ := Int.eq_ofNat_of_zero_le c10
                rw [show Vm.step wl (8, (a1 : Int), (b1 : Int), (c1 : Int)) (at_ : Int) rl = .on (if rl.getD a1 0 = rl.getD b1 0 then (c1 : Int) else (at_ : Int) + 1) rl by simp [Vm.step, Vm.reg]] at hg
                dsimp only at hg
                obtain ⟨u, hu⟩ : ∃ u, rl.getD a1 0 = u := ⟨_, rfl⟩
                obtain ⟨v, hv⟩ : ∃ v, rl.getD b1 0 = v := ⟨_, rfl⟩
                rw [hu, hv] at hg
                have HU := Lib.hid hu; have HVV := Lib.hid hv
                clear hu hv
                have T2 := Lib.hid (T1.out.new #[.int .i64 8, .int .i64 (a1 : Int), .int .i64 (b1 : Int), .int .i64 (c1 : Int)] 58 rfl)
                clear T1
                by_cases huv : u = v
                · rw [if_pos huv] at hg
                  have HG := Lib.hid hg
                  have t2 : (u == v) = true := by simpa using huv
                  clear hg huv
                  go_upto_region 18 with fail
                  apply wp_region_typed (C := fun w' => Held w [] _ _ [] w') (n := 192) (m := 11) (l1 := [_, _, _, _, _, _, _, _, _, _, _]) (l2 := [])
                  · rfl
                  · rfl
                  · kernel_rfl
                  · rfl
                  · kernel_rfl
                  · exact T2.out.drew
                  · exact fun u u' h hb => h.below hb
                  repeat ((apply wpT_exact; · (intro w' hC hf; unfold Gives; obtain ⟨d0, d1, d2, d3⟩ := cells4 (hC.box (.head _)); have g0 := regc' (hC.box (.tail _ (.head _))) H8.out a1 (by omega); rw [HU.out] at g0; have g1 := regc' (hC.box (.tail _ (.head _))) H8.out b1 (by omega); rw [HVV.out] at g1; clear hf hC; go_wp2_with (fail); apply postT_val rfl (Below.refl _ _); simp only [valAt, Array.getD_eq_getD_getElem?, List.getElem?_toArray, List.getElem?_cons_succ, List.getElem?_cons_zero, Option.getD_some]; exact rfl)); (try simp only [Act.put, List.setIfInBounds_toArray, List.set_cons_zero, List.set_cons_succ]))
                  apply wpT_done
                  intro w4 hC _
                  replace T2 := Lib.hid hC
                  clear hC
                  obtain ⟨d0, d1, d2, d3⟩ := cells4 (T2.out.box (.head _))
                  go_wp2_with fail
                  go_roundg r'
                  case measure => omega
                  case rel => exact ⟨c1, k + 1, rl, _, by first | rfl | go_num, by go_num, by omega, by omega, by omega, H8.out, T2.out.less (L' := []) (fun _ h => by cases h) (.cons _ (List.Sublist.refl _)), HG.out⟩
                · rw [if_neg huv] at hg
                  rw [show ((at_ : Int) + 1) = ((at_ + 1 : Nat) : Int) by omega] at hg
                  have HG := Lib.hid hg
                  have t2 : (u == v) = false := by simpa using huv
                  clear hg huv
                  go_upto_region 18 with fail
                  apply wp_region_typed (C := fun w' => Held w [] _ _ [] w') (n := 192) (m := 11) (l1 := [_, _, _, _, _, _, _, _, _, _, _]) (l2 := [])
                  · rfl
                  · rfl
                  · kernel_rfl
                  · rfl
                  · kernel_rfl
                  · exact T2.out.drew
                  · exact fun u u' h hb => h.below hb
                  repeat ((apply wpT_exact; · (intro w' hC hf; unfold Gives; obtain ⟨d0, d1, d2, d3⟩ := cells4 (hC.box (.head _)); have g0 := regc' (hC.box (.tail _ (.head _))) H8.out a1 (by omega); rw [HU.out] at g0; have g1 := regc' (hC.box (.tail _ (.head _))) H8.out b1 (by omega); rw [HVV.out] at g1; clear hf hC; go_wp2_with (fail); apply postT_val rfl (Below.refl _ _); simp only [valAt, Array.getD_eq_getD_getElem?, List.getElem?_toArray, List.getElem?_cons_succ, List.getElem?_cons_zero, Option.getD_some]; exact rfl)); (try simp only [Act.put, List.setIfInBounds_toArray, List.set_cons_zero, List.set_cons_succ]))
                  apply wpT_done
                  intro w4 hC _
                  replace T2 := Lib.hid hC
                  clear hC
                  obtain ⟨d0, d1, d2, d3⟩ := cells4 (T2.out.box (.head _))
                  go_wp2_with fail
                  go_roundg r'
                  case measure => omega
                  case rel => exact ⟨at_ + 1, k + 1, rl, _, by first | rfl | go_num, by go_num, by omega, by omega, by omega, H8.out, T2.out.less (L' := []) (fun _ h => by cases h) (.cons _ (List.Sublist.refl _)), HG.out⟩
  · rw [if_pos h0] at hrun
    have q1 : (vv == 0) = false := by simpa using h0
    have q2 : (vv != 0) = true := by simpa using h0
    have HR := Lib.hid hrun.symm
    clear hrun h0 hvv hn
    generalize (Sc.kinds x).length = n1 at *
    generalize x.2.2.1.length = n2 at *
    generalize x.2.2.2.length = n3 at *
    go_enter Tryd.func16, Tryd.ntmps16
    go_wp2_with (go_at_call 19; ((with_reducible refine (CV.out _ T0.out.bl).mono ?_)); rintro e w2 ⟨rfl, hb2⟩; replace T0 := Lib.hid (T0.out.below hb2); clear hb2; obtain ⟨x0, x1, f0, f1⟩ := cells2 (T0.out.box (.head _)))
    obtain ⟨k1, k2⟩ := rHeld_res T0.out (.int .i64 0) (.int .i64 0)
    exact fin2r rfl rfl rfl rfl k1 ⟨tupR_mk HR.out, k2⟩
end Go.Proofs.YtdpcdocaahjeoaaDoor
