/- Named: the reference's. -/
import Derived.Test.YtdpcdocaahjeoaaDoorM2
namespace Go.Proofs.YtdpcdocaahjeoaaDoor
open Go Go.RowKit
theorem Held.drewN {G : List Nat} {w W : World} {M : List Nat} {bx : List Box} {L : List (List Nat → World → Prop)} (h : Held w G M bx L W) (n : Nat) : Held w G M bx L (W.drewN n) := h.below ⟨rfl, rfl, rfl, Nat.le_refl _, fun _ _ => rfl⟩
set_option maxRecDepth 100000 in
set_option maxHeartbeats 8000000 in
theorem rNamed_any (x : Sch) (N : Int) (p : List Vm.Ins) (Ap : Option Addr) (c : Nat) (w : World) (v : Value) (h : SchV x w v) (hp : SlAt [] w Ap p) (hm : p.length ≤ 9223372036854775807) (hok : ∀ i ∈ p, Vm.insOk N i = true) :
    Calls Tryd.prog 41 #[v, .slice Ap p.length c] w fun e w' => e = .returned (.bool (Vm.named (shp (Sc.kinds x)) p)) ∧ Below w.heap.size w w' := by
  obtain ⟨us, rfl, hu⟩ := h
  obtain ⟨A, cp, B, d, C, e, rfl, s1, s2, s3, a1, b1, b2, b3, b4, b5, b6⟩ := rep_sch hu
  obtain ⟨n, hn⟩ : ∃ n, p.length = n := ⟨_, rfl⟩
  obtain ⟨n1, hn1⟩ : ∃ n, (Sc.kinds x).length = n := ⟨_, rfl⟩
  rw [hn]
  rw [hn] at hm
  rw [hn1] at b1 ⊢
  have HS := Lib.hid s1
  have HP := Lib.hid hp
  have HO := Lib.hid hok
  have HN := Lib.hid hn
  have HN1 := Lib.hid hn1
  clear hu hp hok hn hn1 s1 s2 s3
  generalize x.2.2.1.length = n2 at *
  generalize x.2.2.2.length = n3 at *
  generalize x.1 = x1' at *
  have T0 := Lib.hid ((held0 w [] (fun _ h => by cases h)).new #[.int .i64 x1', .slice A n1 cp, .slice B n2 d, .slice C n3 e] 27 rfl)
  go_enter Tryd.func41, Tryd.ntmps41
  go_wp2_with fail
  go_loopg [5] n (fun r i wr => ∃ (k : Nat) (M : List Nat), k + r = n ∧ i = .int .i64 k ∧ Held w [] M [(w.heap.size, 27, #[.int .i64 x1', .slice A n1 cp, .slice B n2 d, .slice C n3 e])] [] wr ∧ ∀ j (hj : j < p.length), j < k → Vm.nmOk (shp (Sc.kinds x)) p[j] = true)
  case atStart => exact ⟨0, _, by omega, rfl, T0.out, fun _ _ h => by omega⟩
  case round =>
    obtain ⟨k, M, hk, rfl, hb, hall⟩ := hrel
    obtain ⟨wo, rfl⟩ : ∃ wo : World, wo = wr := ⟨_, rfl⟩
    have HT := Lib.hid hb
    have HA := Lib.hid hall
    clear hb hall T0
    by_cases hlt : k < n
    · have hkp : k < p.length := by rw [HN.out]; exact hlt
      have k0 : (0 : Int) ≤ (k : Int) := Int.natCast_nonneg _
      have k1 : (k : Int) < (n : Int) := by omega
      obtain ⟨y0, y1, y2, y3⟩ := cells4 (HT.out.box (.head _))
      obtain ⟨b', o', rfl, _, c0, c1, c2, c3, i0, i1, i2, i3⟩ := Vm.ins_at (HP.out.keep (Chg.of_below HT.out.bl)) k hkp
      have hin := HO.out _ (List.getElem_mem hkp)
      obtain ⟨i, hi⟩ : ∃ i, p[k] = i := ⟨_, rfl⟩
      rw [hi] at c0 c1 c2 c3 i0 i1 i2 i3 hin
      obtain ⟨op, xa, y, z⟩ := i
      dsimp only at c0 c1 c2 c3 i0 i1 i2 i3
      have HI := Lib.hid hi
      clear hi
      obtain ⟨p4, p5⟩ := insOk_pos hin
      dsimp only at p4 p5
      have hnm : Vm.nmOk (shp (Sc.kinds x)) (op, xa, y, z) = if op = 4 then decide (y < (shp (Sc.kinds x)).length) else if op = 5 then decide (y < (shp (Sc.kinds x)).length) && decide (z < (((shp (Sc.kinds x)).getD y.toNat 0 : Nat) : Int)) else true := rfl
      rw [shp_len, HN1.out] at hnm
      clear hin
      by_cases h4 : op = 4
      · subst h4
        have hy := p4 rfl
        rw [if_pos rfl] at hnm
        clear p4 p5
        by_cases hk : y < n1
        · rw [decide_eq_true hk] at hnm
          have HG := Lib.hid hnm
          have q1 : decide ((n1 : Int) ≤ y) = false := decide_eq_false (by omega)
          clear hnm
          go_wp2_with fail
          go_upto_region 5 with fail
          go_quiet (fail)
          go_upto_region 7 with fail
          go_quiet (fail)
          go_wp2_with fail
          go_roundg (gk - 1)
          case measure => omega
          case rel =>
            refine ⟨k + 1, _, by omega, by go_num, (by first | exact HT.out | exact HT.out.drewN _ | exact (HT.out.drewN _).drewN _), fun q hq hlt => ?_⟩
            rcases Nat.lt_or_ge q k with h' | h'
            · exact HA.out q hq h'
            · obtain rfl : q = k := by omega
              rw [HI.out]; exact HG.out
        · rw [decide_eq_false hk] at hnm
          have HG := Lib.hid hnm
          have q1 : decide ((n1 : Int) ≤ y) = true := decide_eq_true (by omega)
          clear hnm
          have HR := Lib.hid (named_bad (x := shp (Sc.kinds x)) hkp (by rw [HI.out]; exact HG.out))
          go_wp2_with fail
          go_upto_region 5 with fail
          go_quiet (fail)
          go_wp2_with fail
          go_ret
          exact ⟨by rw [HR.out]; rfl, (by first | exact HT.out.bl | exact (HT.out.drewN _).bl | exact ((HT.out.drewN _).drewN _).bl)⟩
      · by_cases h5 : op = 5
        · subst h5
          obtain ⟨hy, hz⟩ := p5 rfl
          rw [if_neg (by decide), if_pos rfl] at hnm
          clear p4 p5 h4
          by_cases hk : y < n1
          · rw [decide_eq_true hk, Bool.true_and] at hnm
            have q1 : decide ((n1 : Int) ≤ y) = false := decide_eq_false (by omega)
            obtain ⟨y, rfl⟩ := Int.eq_ofNat_of_zero_le hy
            have hyk : y < (Sc.kinds x).length := by rw [HN1.out]; omega
            rw [show (y : Int).toNat = y from rfl, shp_get hyk] at hnm
            obtain ⟨b2', o2', B2, c2', rfl, _, g0, g1, g2, g3, g4, g5, g6, g7, g8, g9⟩ := knd_at (HS.out.keep (Chg.of_below HT.out.bl)) y hyk
            obtain ⟨nf, hnf⟩ : ∃ m, (Sc.flds (Sc.kinds x)[y]).length = m := ⟨_, rfl⟩
            rw [hnf] at hnm g3 g5
            clear hnf g0 g1 g2 g4 g7 g8 g9
            by_cases hz2 : z < nf
            · rw [decide_eq_true hz2] at hnm
              have HG := Lib.hid hnm
              have q2 : decide ((nf : Int) ≤ z) = false := decide_eq_false (by omega)
              clear hnm
              go_wp2_with fail
              go_upto_region 5 with fail
              go_quiet (fail)
              go_upto_region 7 with fail
              go_quiet (fail)
              go_wp2_with fail
              go_roundg (gk - 1)
              case measure => omega
              case rel =>
                refine ⟨k + 1, _, by omega, by go_num, (by first | exact HT.out | exact HT.out.drewN _ | exact (HT.out.drewN _).drewN _), fun q hq hlt => ?_⟩
                rcases Nat.lt_or_ge q k with h' | h'
                · exact HA.out q hq h'
                · obtain rfl : q = k := by omega
                  rw [HI.out]; exact HG.out
            · rw [decide_eq_false hz2] at hnm
              have HG := Lib.hid hnm
              have q2 : decide ((nf : Int) ≤ z) = true := decide_eq_true (by omega)
              clear hnm
              have HR := Lib.hid (named_bad (x := shp (Sc.kinds x)) hkp (by rw [HI.out]; exact HG.out))
              go_wp2_with fail
              go_upto_region 5 with fail
              go_quiet (fail)
              go_upto_region 7 with fail
              go_quiet (fail)
              go_wp2_with fail
              go_ret
              exact ⟨by rw [HR.out]; rfl, (by first | exact HT.out.bl | exact (HT.out.drewN _).bl | exact ((HT.out.drewN _).drewN _).bl)⟩
          · rw [decide_eq_false hk, Bool.false_and] at hnm
            have HG := Lib.hid hnm
            have q1 : decide ((n1 : Int) ≤ y) = true := decide_eq_true (by omega)
            clear hnm
            have HR := Lib.hid (named_bad (x := shp (Sc.kinds x)) hkp (by rw [HI.out]; exact HG.out))
            go_wp2_with fail
            go_upto_region 5 with fail
            go_quiet (fail)
            go_wp2_with fail
            go_ret
            exact ⟨by rw [HR.out]; rfl, (by first | exact HT.out.bl | exact (HT.out.drewN _).bl | exact ((HT.out.drewN _).drewN _).bl)⟩
        · rw [if_neg h4, if_neg h5] at hnm
          have HG := Lib.hid hnm
          have q1 : (op != 4) = true := by simpa using h4
          have q2 : (op != 5) = true := by simpa using h5
          clear hnm p4 p5 h4 h5
          go_wp2_with fail
          go_roundg (gk - 1)
          case measure => omega
          case rel =>
            refine ⟨k + 1, _, by omega, by go_num, (by first | exact HT.out | exact HT.out.drewN _ | exact (HT.out.drewN _).drewN _), fun q hq hlt => ?_⟩
            rcases Nat.lt_or_ge q k with h' | h'
            · exact HA.out q hq h'
            · obtain rfl : q = k := by omega
              rw [HI.out]; exact HG.out
    · have HR := Lib.hid (named_good (x := shp (Sc.kinds x)) fun q hq => HA.out q hq (by rw [HN.out] at hq; omega))
      have k1 : ¬ (k : Int) < (n : Int) := by omega
      go_wp2_with fail
      go_ret
      exact ⟨by rw [HR.out]; rfl, (by first | exact HT.out.bl | exact (HT.out.drewN _).bl | exact ((HT.out.drewN _).drewN _).bl)⟩
end Go.Proofs.YtdpcdocaahjeoaaDoor
