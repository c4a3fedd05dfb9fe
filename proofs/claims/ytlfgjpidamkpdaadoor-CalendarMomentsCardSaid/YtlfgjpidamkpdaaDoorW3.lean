/- Civil and Day, of the calendar and of the reference. -/
import Derived.Test.YtlfgjpidamkpdaaDoorW2
import Derived.Lib.Hide
namespace Go.Proofs.YtlfgjpidamkpdaaDoor
open Go.RowKit
theorem ret_tri {a b c d f g : Int} (h : a = b) (h' : c = d) (h'' : f = g) : Ending.returned (.tuple #[.int .i64 a, .int .i64 c, .int .i64 f]) = .returned (.tuple #[.int .i64 b, .int .i64 d, .int .i64 g]) := by rw [h, h', h'']

theorem guess (day : Int) (h : Cal.known day) : 1600 ≤ 1600 + (day + 146097) / 366 ∧ 1600 + (day + 146097) / 366 ≤ 2399 ∧ Cal.fst (1600 + (day + 146097) / 366) ≤ day := by
  obtain ⟨h1, h2⟩ := h
  unfold Cal.fst
  omega
set_option maxHeartbeats 2000000 in
theorem civil_any (day : Int) (w : World) :
    Calls Tryd.prog 11 #[.int .i64 day] w fun e w' => e = .returned (.tuple #[.int .i64 (Cal.cy day), .int .i64 (Cal.cm day), .int .i64 (Cal.cd day)]) ∧ Below w.heap.size w w' := by
  cases hk : knownB day
  · have hn := Cal.civil_no (knownB_false hk)
    go_enter Tryd.func11, Tryd.ntmps11
    go_wp2_with (go_at_call 36; refine (known_any _ _).mono ?_; rintro e w' ⟨rfl, rfl⟩)
    go_ret3
    exact ⟨ret_tri hn.1.symm hn.2.1.symm hn.2.2.symm, Below.refl _ _⟩
  · have hn := knownB_true hk
    obtain ⟨g1, g2, g3⟩ := guess day hn
    have hkn := Lib.hid hn
    obtain ⟨b1, b2⟩ := hn
    go_enter Tryd.func11, Tryd.ntmps11
    go_wp2_with (go_at_call 36; refine (known_any _ _).mono ?_; rintro e w' ⟨rfl, rfl⟩)
    go_loopw [5] (fun t wr => ∃ y : Int, 1600 ≤ y ∧ y ≤ 2399 ∧ Cal.fst y ≤ day ∧ t = .int .i64 y ∧ Below w.heap.size w wr) (fun t _ => (2399 - intOf t).toNat)
    case atStart => exact ⟨_, g1, g2, g3, rfl, Below.refl _ _⟩
    case round =>
      obtain ⟨y, hy1, hy2, hy3, rfl, hb⟩ := hrel
      by_cases hc : y < 2399 ∧ Cal.fst (y + 1) ≤ day
      · obtain ⟨hlt, hd⟩ := hc
        go_wp2_with (go_at_call 37; refine (first_any _ _ (by omega) (by omega)).mono ?_; rintro e w' ⟨rfl, hb'⟩)
        go_roundw
        case rel => exact ⟨y + 1, by omega, by omega, hd, rfl, hb.trans (hb'.mono hb.size)⟩
        case measure => simp [intOf]; omega
      · have hz : day < Cal.fst (y + 1) := by
          by_cases e : y = 2399
          · subst e; have := Cal.fst_2400; show _ < Cal.fst 2400; omega
          · omega
        have hs := Cal.fst_succ y
        have hl1 := Cal.lp_lo y
        have hl2 := Cal.lp_hi y
        have hfb := Cal.fst_bd y (by omega) (by omega)
        have HS := Lib.hid hs
        have hd1 : day < Cal.fst y + 365 + Cal.lp y := by omega
        clear hs g3
        by_cases hlt : y < 2399
        all_goals
          go_wp2_with (go_at_call 37; refine (first_any _ _ (by omega) (by omega)).mono ?_; rintro e w1 ⟨rfl, hb1⟩; have hb := hb.trans (hb1.mono hb.size); clear hb1)
          go_loopw [6, 7] (fun r k wr => ∃ m : Int, 1 ≤ m ∧ m ≤ 12 ∧ k = .int .i64 m ∧ 0 ≤ day - Cal.fst y - Cal.cum y m ∧ r = .int .i64 (day - Cal.fst y - Cal.cum y m) ∧ Below w.heap.size w wr) (fun _ k _ => (12 - intOf k).toNat)
          case atStart => exact ⟨1, by omega, by omega, rfl, by rw [Cal.cum_1]; omega, by rw [Cal.cum_1]; simp, hb⟩
          case round =>
            obtain ⟨m, hm1, hm2, rfl, hr, rfl, hb⟩ := hrel
            have cb := Cal.cum_bd y m hm1 (by omega)
            have db := Cal.md_bd y m
            have cs := Cal.cum_succ y m hm1 hm2
            by_cases hc : Cal.md y m ≤ day - Cal.fst y - Cal.cum y m
            · have hm : m < 12 := by
                by_cases e : m = 12
                · exfalso; subst e; have e1 := Cal.cum_13 y; rw [show (12 : Int) + 1 = 13 from rfl, e1] at cs; omega
                · omega
              have CS := Lib.hid cs
              clear cs
              go_wp2_with (go_at_call 38; refine (length_any _ _ _ (by omega) (by omega) (by omega) (by omega)).mono ?_; rintro e w1 ⟨rfl, hb1⟩; have hb := hb.trans (hb1.mono hb.size); clear hb1)
              go_roundw
              case rel => exact ⟨m + 1, by omega, by omega, rfl, by rw [CS.out]; omega, by rw [CS.out]; congr 1; omega, hb⟩
              case measure => simp [intOf]; omega
            · have CS := Lib.hid cs
              clear cs
              have hciv : Cal.IsCivil day y m (day - Cal.fst y - Cal.cum y m + 1) := ⟨⟨hy1, hy2, hm1, hm2, by omega, by omega⟩, by unfold Cal.num; omega⟩
              have HC := Lib.hid (Cal.civil_eq hciv)
              clear hciv
              go_wp2_with (go_at_call 38; refine (length_any _ _ _ (by omega) (by omega) (by omega) (by omega)).mono ?_; rintro e w1 ⟨rfl, hb1⟩; have hb := hb.trans (hb1.mono hb.size); clear hb1)
              go_ret3
              exact ⟨ret_tri HC.out.1.symm HC.out.2.1.symm HC.out.2.2.symm, hb⟩
end Go.Proofs.YtlfgjpidamkpdaaDoor
