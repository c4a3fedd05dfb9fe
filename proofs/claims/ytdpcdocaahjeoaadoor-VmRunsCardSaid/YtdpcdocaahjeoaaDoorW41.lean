/- World: the generator of worlds. -/
import Derived.Test.YtdpcdocaahjeoaaDoorM9
import Derived.Test.YtdpcdocaahjeoaaDoorW40
import Derived.Test.YtdpcdocaahjeoaaDoorBaseB
import Derived.WalkLawsBesides
import Derived.Deep.CutBlock
namespace Go.Proofs.YtdpcdocaahjeoaaDoor
open Go Go.RowKit
/-- A small world that fits a shape. -/
def WorB (s : Vm.Shape) (wl : Wor) : Prop := ∀ j (h : j < wl.length), (wl[j]).length ≤ 4 ∧ ∀ r ∈ wl[j], r.length = s.getD j 0 ∧ ∀ v ∈ r, -1000 ≤ v ∧ v ≤ 1000
def WorldP (x : Sch) (w : World) (e : Ending) (w' : World) : Prop := ∃ wl v, e = .returned v ∧ Rep [] w' wl v ∧ wl.length = (Sc.kinds x).length ∧ WorB (shp (Sc.kinds x)) wl ∧ Below w.heap.size w w'
theorem infoInt : (Tryd.prog.info? 3).map (fun i => (i.zero, i.size, i.bytes)) = some (some (.int .i64 0), 1, 8) := by kernel_rfl
theorem infoInts : (Tryd.prog.info? 22).map (fun i => (i.zero, i.size, i.bytes)) = some (some (.slice none 0 0), 1, 24) := by kernel_rfl
theorem infoIntss : (Tryd.prog.info? 59).map (fun i => (i.zero, i.size, i.bytes)) = some (some (.slice none 0 0), 1, 24) := by kernel_rfl
theorem emod_in (p n : Nat) (hp : p ≤ 1000000) : inI ((p : Int) % (n : Int)) := by
  rw [← Int.natCast_emod]
  have := Nat.mod_le p n
  unfold inI; omega
set_option maxRecDepth 100000 in
set_option maxHeartbeats 8000000 in
theorem world_any (x : Sch) (v : Value) (l : List Int) (A : Option Addr) (c : Nat) (odd : Bool) (w : World) (hx : SchV x w v) (hs : SlAt [] w A l) (hl : l.length ≤ 9223372036854775807) (hk : (Sc.kinds x).length ≤ 100) (hf : ∀ k ∈ Sc.kinds x, (Sc.flds k).length ≤ 100) :
    Calls Tryd.prog 10 #[v, .slice A l.length c, .bool odd] w (WorldP x w) := by
  obtain ⟨us, rfl, hu⟩ := hx
  obtain ⟨Ak, cp, B, d, C, e, rfl, s1, s2, s3, a1, b1, b2, b3, b4, b5, b6⟩ := rep_sch hu
  have HL := Lib.hid hl
  obtain ⟨n, hn⟩ : ∃ n, l.length = n := ⟨_, rfl⟩
  unfold WorldP
  obtain ⟨ks, hks⟩ : ∃ k, Sc.kinds x = k := ⟨_, rfl⟩
  rw [hks] at s1 hk hf b1 ⊢
  obtain ⟨nk, hnk⟩ : ∃ m, ks.length = m := ⟨_, rfl⟩
  have HAT := Lib.hid (fun (i m : Int) (W : World) (h : SlAt [] W A l) => at_some A c l i m W h hl)
  rw [hn] at HAT
  have HN := Lib.hid hn
  have HNK := Lib.hid hnk
  have HF := Lib.hid hf
  rw [hn] at hl
  rw [hn, hnk]
  rw [hnk] at hk
  generalize x.1 = ver at *
  generalize x.2.2.1.length = nl at *
  generalize x.2.2.2.length = nr at *
  have H0 := Lib.hid (HR.start ((((held0 w [] (fun _ h => by cases h)).add (keeps_sl A l) hs).add (keeps_sl Ak ks) s1).new #[.int .i64 ver, .slice Ak nk cp, .slice B nl d, .slice C nr e] 27 rfl))
  clear hu s1 s2 s3 a1 b1 b2 b3 b4 b5 b6 hs hks hn hnk hf
  go_enter Tryd.func10, Tryd.ntmps10
  go_wp2_with fail
  go_loopg [7, 8] nk (fun r v7 i wr => ∃ (k : Nat) (M : List Nat) (cs : List Int), k + r = nk ∧ i = .int .i64 k ∧ cs.length = k ∧ (∀ c ∈ cs, 0 ≤ c ∧ c ≤ 4) ∧ HR w [] M [(w.heap.size, 27, #[.int .i64 ver, .slice Ak nk cp, .slice B nl d, .slice C nr e])] [⟨3, 1, v7, k, intVals cs⟩] [fun M W => SlAt M W Ak ks, fun M W => SlAt M W A l] wr)
  case atStart => exact ⟨0, _, [], by omega, rfl, rfl, by simp, H0.out.push 3 1⟩
  case round =>
    obtain ⟨k, M, cs, hk2, rfl, hcs, hcb, HT⟩ := hrel
    clear H0
    obtain ⟨wo, rfl⟩ : ∃ wo : World, wo = wr := ⟨_, rfl⟩
    obtain ⟨A7, c7, rfl⟩ := HT.form (.head _)
    have H := Lib.hid HT
    have HCB := Lib.hid hcb
    have HCS := Lib.hid hcs
    clear HT hcb hcs
    obtain ⟨y0, y1, y2, y3⟩ := cells4 (H.out.box (.head _))
    by_cases hlt : k < nk
    · have k1 : (k : Int) < (nk : Int) := by omega
      have k9 : (0 : Int) ≤ (k : Int) := by omega
      have HSL := Lib.hid ((H.out.fact (.tail _ (.head _))).sub (G' := []) (fun g hg => nomatch hg))
      have HKI := Lib.hid (show inI (k : Int) by unfold inI; omega)
      go_upto_region 6 with (first | (go_at_call 35; ((with_reducible refine (HAT.out (k : Int) 5 _ HSL.out HKI.out (by omega) (by omega)).mono ?_)); rintro e w3 ⟨z, rfl, z1, z2, rfl⟩) | (at_builtin; obtain ⟨i0, hI, hz0, hz1, hz2⟩ := info_parts infoInt; refine wpList_append_rows (by rfl) _ _ 22 (by rfl) 3 i0 _ 1 8 Tryd.underlying22 hI hz0 hz1 hz2 rfl (by decide) (H.out.below ((Below.refl _ _).alloc (Nat.le_refl _) _)) (by rfl) _ _ 1 1 [.int .i64 z] (by rfl) (reads_blk (Blk.new _ _ _) rfl) (by simp [Value.oneCell']) (by unfold maxLen; omega) (by omega) ?_; intro v5 w5 M5 h5 _; obtain ⟨A5, c5, rfl⟩ := h5.form (.head _); obtain ⟨g5, rfl⟩ := h5.rform (.head _) (by omega); rw [intVals_snocB] at h5; have H5 := Lib.hid h5; clear h5 hI hz0 hz1 hz2))
      have HC5 := Lib.hid (show (∀ c ∈ cs ++ [z], 0 ≤ c ∧ c ≤ 4) ∧ (cs ++ [z]).length = k + 1 from ⟨fun c hc => by
        rcases List.mem_append.1 hc with hc | hc
        · exact HCB.out c hc
        · simp only [List.mem_singleton] at hc; subst hc; omega, by rw [List.length_append, HCS.out]; rfl⟩)
      have hst := Lib.hid (H5.out.setRow (.int .i64 0) (k := k) (by omega))
      rw [intVals_setB] at hst
      clear HSL HKI H y0 y1 y2 y3 z1 z2
      have f5 := H5.out.rfroz (.head _) (by omega) k
      have q5 := H5.out.rcell (.head _) (by omega) (intVals_atB (l := cs ++ [z]) (j := k) (by have := HC5.out.2; omega))
      rcases Nat.eq_zero_or_pos k with hk0 | hk0
      · subst hk0
        go_wp2_with fail
        go_roundg (gk - 1)
        case measure => omega
        case rel => exact ⟨1, M5, cs ++ [z], by omega, by go_num, HC5.out.2, HC5.out.1, H5.out⟩
      · obtain ⟨j, rfl⟩ : ∃ j, k = j + 1 := ⟨k - 1, by omega⟩
        have hj : j < (cs ++ [z]).length := by have := HC5.out.2; omega
        have q6 := H5.out.rcell (.head _) (by omega) (intVals_atB hj)
        obtain ⟨y, hy⟩ : ∃ y, (cs ++ [z])[j] = y := ⟨_, rfl⟩
        rw [hy] at q6
        clear hy hj
        have k2 : (((j + 1 : Nat) : Int)) - 1 = (j : Int) := by omega
        have k3 : (0 : Int) < ((j + 1 : Nat) : Int) := by omega
        have k4 : (j : Int) < ((j + 1 + 1 : Nat) : Int) := by omega
        by_cases hy0 : y = 0
        · subst hy0
          go_wp2_with fail
          go_roundg (gk - 1)
          case measure => omega
          case rel =>
            refine ⟨j + 1 + 1, M5, (cs ++ [z]).set (j + 1) 0, by omega, by go_num, by rw [List.length_set]; exact HC5.out.2, fun c hc => ?_, hst.out⟩
            rcases List.mem_or_eq_of_mem_set hc with hc | rfl
            · exact HC5.out.1 c hc
            · omega
        · have t1 : (y == 0) = false := beq_eq_false_iff_ne.2 hy0
          go_wp2_with fail
          go_roundg (gk - 1)
          case measure => omega
          case rel => exact ⟨j + 1 + 1, M5, cs ++ [z], by omega, by go_num, HC5.out.2, HC5.out.1, H5.out⟩
    · obtain rfl : nk = k := by omega
      have k1 : ¬ (nk : Int) < (nk : Int) := by omega
      clear hlt hk2
      go_upto_block 2 with fail
      clear y0 y1 y2 y3
      go_wp2_with fail
      go_loopg [9, 10, 11] nk (fun r v9 v10 v11 wr => ∃ (k p : Nat) (M : List Nat) (wl : Wor) (xs : List Value), k + r = nk ∧ v11 = .int .i64 k ∧ v10 = .int .i64 p ∧ p ≤ 6 + k * 400 ∧ wl.length = k ∧ WorB (shp ks) wl ∧ HR w [] M [(w.heap.size, 27, #[.int .i64 ver, .slice Ak nk cp, .slice B nl d, .slice C nr e])] [⟨59, 1, v9, k, xs⟩, ⟨3, 1, .slice A7 nk c7, nk, intVals cs⟩] [fun M W => Flat M W wl xs, fun M W => SlAt M W Ak ks, fun M W => SlAt M W A l] wr)
      case atStart => exact ⟨0, 6, _, [], [], by omega, rfl, rfl, by omega, rfl, (fun j h => by simp at h), (H.out.push 59 1).add (keeps_flat [] []) rfl⟩
      case round =>
        obtain ⟨k, p, M2, wl, xs, hk2, rfl, rfl, hp, hwl, hwb, HT⟩ := hrel
        clear H
        obtain ⟨wa, rfl⟩ : ∃ wa : World, wa = wr := ⟨_, rfl⟩
        obtain ⟨gk2, rfl⟩ : ∃ g, g = gk := ⟨_, rfl⟩
        obtain ⟨A9, c9, rfl⟩ := HT.form (.head _)
        have HO := Lib.hid HT
        have HWL := Lib.hid hwl
        have HWB := Lib.hid hwb
        clear HT hwl hwb
        obtain ⟨y0, y1, y2, y3⟩ := cells4 (HO.out.box (.head _))
        by_cases hlt : k < nk
        · have k1 : (k : Int) < (nk : Int) := by omega
          have k9 : (0 : Int) ≤ (k : Int) := by omega
          have hkl : k < ks.length := by rw [HNK.out]; exact hlt
          have hkc : k < cs.length := by rw [HCS.out]; exact hlt
          have hcb := HCB.out _ (List.getElem_mem hkc)
          obtain ⟨cnt, hcnt⟩ : ∃ z : Nat, cs[k] = (z : Int) := ⟨(cs[k]).toNat, by omega⟩
          rw [hcnt] at hcb
          obtain ⟨g7, rfl⟩ := HO.out.rform (.tail _ (.head _)) (by omega)
          have HQ7 := Lib.hid (show (intVals cs)[k]? = some (.int .i64 (cnt : Int)) by rw [intVals_atB hkc, hcnt])
          have hc4 : cnt ≤ 4 := by omega
          clear hcnt hcb hkc
          go_wp2_with fail
          go_loopg [10, 12, 13] cnt (fun r v10 v12 v13 wr => ∃ (i p : Nat) (M : List Nat) (recs : List (List Int)) (xs2 : List Value), i + r = cnt ∧ v13 = .int .i64 i ∧ v10 = .int .i64 p ∧ p ≤ 6 + k * 400 + i * 100 ∧ recs.length = i ∧ (∀ r ∈ recs, r.length = (shp ks).getD k 0 ∧ ∀ v ∈ r, -1000 ≤ v ∧ v ≤ 1000) ∧ HR w [] M [(w.heap.size, 27, #[.int .i64 ver, .slice Ak nk cp, .slice B nl d, .slice C nr e])] [⟨22, 1, v12, i, xs2⟩, ⟨59, 1, .slice A9 k c9, k, xs⟩, ⟨3, 1, .slice (some ⟨g7, 0, none⟩) nk c7, nk, intVals cs⟩] [fun M W => Flat M W recs xs2, fun M W => Flat M W wl xs, fun M W => SlAt M W Ak ks, fun M W => SlAt M W A l] wr)
          case atStart => exact ⟨0, p, _, [], [], by omega, rfl, rfl, by omega, rfl, (fun r h => by cases h), (HO.out.push 22 1).add (keeps_flat [] []) rfl⟩
          case round =>
            clear y0 y1 y2 y3
            obtain ⟨i, p, M3, recs, xs2, hi2, rfl, rfl, hp2, hrl, hrb, HT⟩ := hrel
            clear HO hp
            obtain ⟨wb, rfl⟩ : ∃ wb : World, wb = wr := ⟨_, rfl⟩
            obtain ⟨gk3, rfl⟩ : ∃ g, g = gk := ⟨_, rfl⟩
            obtain ⟨A12, c12, rfl⟩ := HT.form (.head _)
            have HI := Lib.hid HT
            have HRL := Lib.hid hrl
            have HRB := Lib.hid hrb
            clear HT hrl hrb
            have q7 := HI.out.rcell (.tail _ (.tail _ (.head _))) (by omega) HQ7.out
            by_cases hlt2 : i < cnt
            · have k2 : (i : Int) < (cnt : Int) := by omega
              obtain ⟨m, hm⟩ : ∃ m, (shp ks).getD k 0 = m := ⟨_, rfl⟩
              have hmf : (Sc.flds ks[k]).length = m := by rw [← hm, shp_get hkl]
              have hm100 : m ≤ 100 := by rw [← hmf]; exact HF.out _ (List.getElem_mem hkl)
              have HMF := Lib.hid (show ∃ h : k < ks.length, (Sc.flds ks[k]).length = m from ⟨hkl, hmf⟩)
              have HM := Lib.hid hm
              clear hm hmf
              go_wp2_with fail
              go_loopg [10, 14, 15] m (fun r v10 v14 v15 wr => ∃ (f p : Nat) (M : List Nat) (rl : List Int), f + r = m ∧ v15 = .int .i64 f ∧ v10 = .int .i64 p ∧ p ≤ 6 + k * 400 + i * 100 + f ∧ rl.length = f ∧ (∀ v ∈ rl, -1000 ≤ v ∧ v ≤ 1000) ∧ HR w [] M [(w.heap.size, 27, #[.int .i64 ver, .slice Ak nk cp, .slice B nl d, .slice C nr e])] [⟨3, 1, v14, f, intVals rl⟩, ⟨22, 1, .slice A12 i c12, i, xs2⟩, ⟨59, 1, .slice A9 k c9, k, xs⟩, ⟨3, 1, .slice (some ⟨g7, 0, none⟩) nk c7, nk, intVals cs⟩] [fun M W => Flat M W recs xs2, fun M W => Flat M W wl xs, fun M W => SlAt M W Ak ks, fun M W => SlAt M W A l] wr)
              case atStart => exact ⟨0, p, _, [], by omega, rfl, rfl, by omega, rfl, (fun r h => by cases h), HI.out.push 3 1⟩
              case round =>
                clear q7
                obtain ⟨f, p, M4, rl, hf2, rfl, rfl, hp3, hrl, hrb, HT⟩ := hrel
                clear HI hp2
                obtain ⟨wd, rfl⟩ : ∃ wd : World, wd = wr := ⟨_, rfl⟩
                obtain ⟨A14, c14, rfl⟩ := HT.form (.head _)
                have HJ := Lib.hid HT
                have HRL4 := Lib.hid hrl
                have HRB4 := Lib.hid hrb
                clear HT hrl hrb
                obtain ⟨y0, y1, y2, y3⟩ := cells4 (HJ.out.box (.head _))
                obtain ⟨hkl', hmf⟩ := HMF.out
                obtain ⟨b9, o9, B9, d9, rfl, _, c0, c1, c2, c3, hs9, _⟩ := knd_at (HJ.out.fact (.tail _ (.tail _ (.head _)))) k hkl'
                rw [hmf] at c3
                by_cases hlt3 : f < m
                · have k3 : (f : Int) < (m : Int) := by omega
                  have k4 : (0 : Int) ≤ (f : Int) := by omega
                  have HSL := Lib.hid ((HJ.out.fact (.tail _ (.tail _ (.tail _ (.head _))))).sub (G' := []) (fun g hg => nomatch hg))
                  have hp6 : p ≤ 1000000 := by omega
                  go_upto_region 21 with fail
                  go_cut [16] from 59 to 135 (fun v16 w' => w' = wd ∧ ∃ z : Int, v16 = .int .i64 z ∧ -2 ≤ z ∧ z ≤ 9)
                  case first =>
                    go_wp2_with (go_at_call 35; refine (HAT.out _ 12 _ HSL.out (by first | exact emod_in p n hp6 | (unfold inI; omega)) (by omega) (by omega)).mono ?_; rintro e w3 ⟨z, rfl, z1, z2, rfl⟩)
                    all_goals
                      go_meet
                      case rel => exact ⟨rfl, _, rfl, by omega, by omega⟩
                  case rest =>
                    obtain ⟨rfl, z, rfl, z1, z2⟩ := hcut
                    obtain ⟨we, rfl⟩ : ∃ we : World, we = wc := ⟨_, rfl⟩
                    obtain ⟨b8, o8, _, _, _, _, rfl, _, _, _, _, e3, _⟩ := fld_at hs9 f (by rw [hmf]; exact hlt3)
                    obtain ⟨y, hy⟩ : ∃ y, Sc.kd ((Sc.flds ks[k])[f]'(by rw [hmf]; exact hlt3)) = y := ⟨_, rfl⟩
                    rw [hy] at e3
                    clear hy hs9
                    have hfl : f < (Sc.flds ks[k]).length := by rw [hmf]; exact hlt3
                    have CU := Lib.hid (up_any ks (some ⟨b9, o9, none⟩) cp ver B C nl d nr e k f we ((HJ.out.fact (.tail _ (.tail _ (.head _)))).sub (G' := []) (fun g hg => nomatch hg)) (by rw [HNK.out]; omega) hkl hfl)
                    rw [HNK.out] at CU
                    obtain ⟨up, hup⟩ : ∃ u, Sc.upOf ks k f = u := ⟨_, rfl⟩
                    rw [hup] at CU
                    have hub : -1 ≤ up ∧ up < k := by rw [← hup]; exact Sc.upOf_bd ks k f
                    obtain ⟨hu1, hu2⟩ := hub
                    clear hup
                    go_upto_region 23 with fail
                    go_upto_if 88 with fail
                    go_cut [17] from 59 to 135 (fun v17 w' => ∃ u : Int, v17 = .int .i64 u ∧ -1 ≤ u ∧ u < k ∧ HR w [] M4 [(w.heap.size, 27, #[.int .i64 ver, .slice (some ⟨b9, o9, none⟩) nk cp, .slice B nl d, .slice C nr e])] [⟨3, 1, .slice A14 f c14, f, intVals rl⟩, ⟨22, 1, .slice A12 i c12, i, xs2⟩, ⟨59, 1, .slice A9 k c9, k, xs⟩, ⟨3, 1, .slice (some ⟨g7, 0, none⟩) nk c7, nk, intVals cs⟩] [fun M W => Flat M W recs xs2, fun M W => Flat M W wl xs, fun M W => SlAt M W (some ⟨b9, o9, none⟩) ks, fun M W => SlAt M W A l] w')
                    case first =>
                      by_cases hy1 : y = 1
                      · subst hy1
                        go_wp2_with (go_at_call 36; ((with_reducible refine (CU.out).mono ?_)); rintro e w3 ⟨rfl, hb⟩; have T5 := Lib.hid (HJ.out.below hb); clear hb)
                        go_meet
                        case rel => exact ⟨up, rfl, hu1, hu2, T5.out⟩
                      · have t1 : (y == 1) = false := beq_eq_false_iff_ne.2 hy1
                        go_wp2_with fail
                        go_meet
                        case rel => exact ⟨-1, rfl, by omega, by omega, HJ.out⟩
                    case rest =>
                      clear CU hu1 hu2 y0 y1 y2 y3 c0 c1 c2 c3 e3 HJ HSL
                      obtain ⟨u, rfl, hu1, hu2, HT⟩ := hcut
                      obtain ⟨wf, rfl⟩ : ∃ we : World, we = wc := ⟨_, rfl⟩
                      have HJ := Lib.hid HT
                      clear HT
                      have HSL := Lib.hid ((HJ.out.fact (.tail _ (.tail _ (.tail _ (.head _))))).sub (G' := []) (fun g hg => nomatch hg))
                      go_upto_if 94 with fail
                      go_cut [16] from 59 to 135 (fun v16 w' => ∃ z : Int, v16 = .int .i64 z ∧ -1000 ≤ z ∧ z ≤ 1000 ∧ HR w [] M4 [(w.heap.size, 27, #[.int .i64 ver, .slice (some ⟨b9, o9, none⟩) nk cp, .slice B nl d, .slice C nr e])] [⟨3, 1, .slice A14 f c14, f, intVals rl⟩, ⟨22, 1, .slice A12 i c12, i, xs2⟩, ⟨59, 1, .slice A9 k c9, k, xs⟩, ⟨3, 1, .slice (some ⟨g7, 0, none⟩) nk c7, nk, intVals cs⟩] [fun M W => Flat M W recs xs2, fun M W => Flat M W wl xs, fun M W => SlAt M W (some ⟨b9, o9, none⟩) ks, fun M W => SlAt M W A l] w')
                      case first =>
                        by_cases hu0 : 0 ≤ u
                        · have t0 : decide (0 ≤ u) = true := decide_eq_true hu0
                          obtain ⟨un, rfl⟩ : ∃ a : Nat, u = a := ⟨u.toNat, by omega⟩
                          have hkc : un < cs.length := by rw [HCS.out]; omega
                          have hcb := HCB.out _ (List.getElem_mem hkc)
                          obtain ⟨uc, huc⟩ : ∃ z : Nat, cs[un] = (z : Int) := ⟨(cs[un]).toNat, by omega⟩
                          rw [huc] at hcb
                          have q7 := HJ.out.rcell (.tail _ (.tail _ (.tail _ (.head _)))) (by omega) (intVals_atB hkc)
                          rw [huc] at q7
                          have k5 : (un : Int) < (nk : Int) := by omega
                          have k6 : (0 : Int) ≤ (un : Int) := by omega
                          obtain ⟨hcb1, hcb2⟩ := hcb
                          clear huc
                          have hn' : n = 0 ∨ (1 : Int) ≤ (n : Int) := by omega
                          have hu' : uc = 0 ∨ (1 : Int) ≤ (uc : Int) := by omega
                          go_upto_region 26 with fail
                          go_cut [16] from 59 to 135 (fun v16 w' => ∃ z : Int, v16 = .int .i64 z ∧ 0 ≤ z ∧ z ≤ 4 ∧ HR w [] M4 [(w.heap.size, 27, #[.int .i64 ver, .slice (some ⟨b9, o9, none⟩) nk cp, .slice B nl d, .slice C nr e])] [⟨3, 1, .slice A14 f c14, f, intVals rl⟩, ⟨22, 1, .slice A12 i c12, i, xs2⟩, ⟨59, 1, .slice A9 k c9, k, xs⟩, ⟨3, 1, .slice (some ⟨g7, 0, none⟩) nk c7, nk, intVals cs⟩] [fun M W => Flat M W recs xs2, fun M W => Flat M W wl xs, fun M W => SlAt M W (some ⟨b9, o9, none⟩) ks, fun M W => SlAt M W A l] w')
                          case first =>
                            rcases hn' with rfl | tn <;> rcases hu' with rfl | tu
                            all_goals
                              apply wp_region_typed (C := fun w' => Below wf.heap.size wf w') (n := 145) (m := 12) (l1 := [_, _, _, _, _, _, _, _, _, _, _, _]) (l2 := [_])
                              · rfl
                              · rfl
                              · kernel_rfl
                              · rfl
                              · kernel_rfl
                              · exact ⟨rfl, rfl, rfl, Nat.le_refl _, fun _ _ => rfl⟩
                              · exact fun u u' h hb => (by first | exact h.below hb | exact h.trans (hb.mono h.size))
                              iterate 11 ((apply wpT_exact; · (intro w' hC hf; unfold Gives; have q8 := (hC.cell (World.block_lt_of_cell? _ _ q7)).trans q7; clear hf hC; go_wp2_with (fail); apply postT_val rfl (Below.refl _ _); simp only [valAt, Array.getD_eq_getD_getElem?, List.getElem?_toArray, List.getElem?_cons_succ, List.getElem?_cons_zero, Option.getD_some]; exact rfl)); (try simp only [Act.put, List.setIfInBounds_toArray, List.set_cons_zero, List.set_cons_succ]))
                              apply wpT_typed (T := fun v _ => ∃ z : Int, v = .int .i64 z ∧ 0 ≤ z ∧ z ≤ 4) (fun v w w' h _ => h)
                              · intro w' hC hf; unfold Gives; clear hf
                                have HS5 := Lib.hid (HSL.out.keep (Chg.of_below hC)); clear hC
                                go_wp2_with (go_at_call 35; refine (HAT.out _ _ _ HS5.out (by first | exact emod_in p n hp6 | (unfold inI; omega)) (by omega) (by omega)).mono ?_; rintro e w' ⟨v, rfl, v1, v2, rfl⟩)
                                refine postT_mk rfl (Below.refl _ _) ?_; simp only [valAt, Array.getD_eq_getD_getElem?, List.getElem?_toArray, List.getElem?_cons_succ, List.getElem?_cons_zero, Option.getD_some]; exact ⟨_, rfl, v1, by omega⟩
                              intro v; (try simp only [Act.put, List.setIfInBounds_toArray, List.set_cons_zero, List.set_cons_succ])
                              apply wpT_done
                              intro w4 hC hall
                              obtain ⟨z8, rfl, z81, z82⟩ := hall.1
                              have T5 := Lib.hid (HJ.out.below hC)
                              clear hC hall
                              go_wp2_with fail
                              go_meet
                              case rel => exact ⟨z8, rfl, z81, z82, T5.out⟩
                          case rest =>
                            clear HJ HSL hcb1 q7
                            obtain ⟨z8, rfl, z81, z82, HT⟩ := hcut
                            obtain ⟨wg, rfl⟩ : ∃ we : World, we = wc := ⟨_, rfl⟩
                            have HJ := Lib.hid HT
                            clear HT hu'
                            have HSL := Lib.hid ((HJ.out.fact (.tail _ (.tail _ (.tail _ (.head _))))).sub (G' := []) (fun g hg => nomatch hg))
                            go_upto_region 27 with fail
                            go_cut [117] from 59 to 135 (fun v117 w' => ∃ b : Bool, v117 = .bool b ∧ HR w [] M4 [(w.heap.size, 27, #[.int .i64 ver, .slice (some ⟨b9, o9, none⟩) nk cp, .slice B nl d, .slice C nr e])] [⟨3, 1, .slice A14 f c14, f, intVals rl⟩, ⟨22, 1, .slice A12 i c12, i, xs2⟩, ⟨59, 1, .slice A9 k c9, k, xs⟩, ⟨3, 1, .slice (some ⟨g7, 0, none⟩) nk c7, nk, intVals cs⟩] [fun M W => Flat M W recs xs2, fun M W => Flat M W wl xs, fun M W => SlAt M W (some ⟨b9, o9, none⟩) ks, fun M W => SlAt M W A l] w')
                            case first =>
                              cases odd
                              · go_wp2_with fail
                                go_meet
                                case rel => exact ⟨_, rfl, HJ.out⟩
                              · rcases hn' with rfl | tn
                                all_goals
                                  go_wp2_with (go_at_call 35; refine (HAT.out _ 31 _ HSL.out (by first | exact emod_in p n hp6 | (unfold inI; omega)) (by omega) (by omega)).mono ?_; rintro e w' ⟨v, rfl, v1, v2, rfl⟩)
                                  go_meet
                                  case rel => exact ⟨_, rfl, HJ.out⟩
                            case rest =>
                              clear HJ HSL hn'
                              obtain ⟨b, rfl, HT⟩ := hcut
                              obtain ⟨wh, rfl⟩ : ∃ we : World, we = wc := ⟨_, rfl⟩
                              have HJ := Lib.hid HT
                              clear HT
                              go_upto_if 117 with fail
                              cases b
                              · go_wp2_with fail
                                go_meet
                                case rel => exact ⟨z8, rfl, by omega, by omega, HJ.out⟩
                              · have q7 := HJ.out.rcell (.tail _ (.tail _ (.tail _ (.head _)))) (by omega) (intVals_atB hkc)
                                obtain ⟨uc', huc'⟩ : ∃ z : Nat, cs[un] = (z : Int) := ⟨(cs[un]).toNat, by have := HCB.out _ (List.getElem_mem hkc); omega⟩
                                have hub : uc' ≤ 4 := by have := HCB.out _ (List.getElem_mem hkc); omega
                                rw [huc'] at q7
                                clear huc'
                                have em1 : (k : Int) % 2 = 0 ∨ (k : Int) % 2 = 1 := by omega
                                have em2 : (f : Int) % 2 = 0 ∨ (f : Int) % 2 = 1 := by omega
                                rcases em1 with em1 | em1 <;> rcases em2 with em2 | em2
                                all_goals
                                  go_wp2_with fail
                                  go_meet
                                  case rel => exact ⟨_, rfl, by omega, by omega, HJ.out⟩
                        · have t0 : decide (0 ≤ u) = false := decide_eq_false hu0
                          go_wp2_with fail
                          go_meet
                          case rel => exact ⟨z, rfl, by omega, by omega, HJ.out⟩
                      case rest =>
                        clear HJ HSL hu1 hu2
                        obtain ⟨z9, rfl, z91, z92, HT⟩ := hcut
                        obtain ⟨wi, rfl⟩ : ∃ we : World, we = wc := ⟨_, rfl⟩
                        have HJ := Lib.hid HT
                        clear HT
                        go_wp2_with (at_builtin; obtain ⟨i0, hI, hz0, hz1, hz2⟩ := info_parts infoInt; refine wpList_append_rows (by rfl) _ _ 22 (by rfl) 3 i0 _ 1 8 Tryd.underlying22 hI hz0 hz1 hz2 rfl (by decide) (HJ.out.below ((Below.refl _ _).alloc (Nat.le_refl _) _)) (by rfl) _ _ 1 1 [.int .i64 z9] (by rfl) (reads_blk (Blk.new _ _ _) rfl) (by simp [Value.oneCell']) (by unfold maxLen; omega) (by omega) ?_; intro v5 w5 M5 h5 _; obtain ⟨A5, c5, rfl⟩ := h5.form (.head _); rw [intVals_snocB] at h5; have H5 := Lib.hid h5; clear h5 hI hz0 hz1 hz2)
                        clear HJ
                        go_roundg (gk - 1)
                        case measure => omega
                        case rel =>
                          refine ⟨f + 1, p + 1, M5, rl ++ [z9], by omega, by go_num, by go_num, by omega, by rw [List.length_append, HRL4.out]; rfl, fun v hv => ?_, H5.out⟩
                          rcases List.mem_append.1 hv with hv | hv
                          · exact HRB4.out v hv
                          · simp only [List.mem_singleton] at hv; subst hv; exact ⟨z91, z92⟩
                · obtain rfl : m = f := by omega
                  have hrl := HRL4.out
                  obtain ⟨Ar, cr, M5, er, er1, er2, HG, _⟩ := HJ.out.freeze (α := Int) (l := rl) rfl hrl.symm (flat_intsB (fun v hv => by have := HRB4.out v hv; unfold inI; omega)) (fun g hg => nomatch hg)
                  rw [hrl] at er er1
                  obtain ⟨rfl, rfl⟩ : A14 = Ar ∧ c14 = cr := by injection er with h1 _ h2; exact ⟨h1, h2⟩
                  have HS := Lib.hid HG
                  have HE := Lib.hid (show m ≤ c14 ∧ c14 ≤ 9223372036854775807 from ⟨er1, er2⟩)
                  clear HG er er1 er2 hrl HJ
                  go_wp2_with (at_builtin; obtain ⟨i0, hI, hz0, hz1, hz2⟩ := info_parts infoInts; refine wpList_append_rows (by rfl) _ _ 59 (by rfl) 22 i0 _ 1 24 Tryd.underlying59 hI hz0 hz1 hz2 rfl (by decide) (HS.out.below ((Below.refl _ _).alloc (Nat.le_refl _) _)) (by rfl) _ _ 1 1 [.slice A14 m c14] (by rfl) (reads_blk (Blk.new _ _ _) rfl) (by simp [Value.oneCell']) (by unfold maxLen; omega) (by omega) ?_; intro v5 w5 M5 h5 _; obtain ⟨A5, c5, rfl⟩ := h5.form (.head _); have H5 := Lib.hid h5; clear h5 hI hz0 hz1 hz2)
                  have T5 := Lib.hid ((H5.out.fswap.flat (news := [rl]) (Flat.single ⟨A14, c14, by rw [HRL4.out], by rw [HRL4.out]; exact HE.out.1, HE.out.2, H5.out.fact (.head _)⟩)).fswap.tail)
                  clear H5 HS
                  go_roundg (gk3 - 1)
                  case measure => omega
                  case rel =>
                    refine ⟨i + 1, p, M5, recs ++ [rl], xs2 ++ [.slice A14 m c14], by omega, by go_num, rfl, by omega, by rw [List.length_append, HRL.out]; rfl, fun r hr => ?_, T5.out⟩
                    rcases List.mem_append.1 hr with hr | hr
                    · exact HRB.out r hr
                    · simp only [List.mem_singleton] at hr; subst hr; exact ⟨HRL4.out.trans HM.out.symm, HRB4.out⟩
            · obtain rfl : cnt = i := by omega
              have hrl := HRL.out
              obtain ⟨Ar, cr, M5, er, er1, er2, HG, _⟩ := HI.out.freeze (α := List Int) (l := recs) rfl hrl.symm (HI.out.fact (.head _)) (fun g hg => nomatch hg)
              rw [hrl] at er er1
              obtain ⟨rfl, rfl⟩ : A12 = Ar ∧ c12 = cr := by injection er with h1 _ h2; exact ⟨h1, h2⟩
              have HS := Lib.hid HG
              have HE := Lib.hid (show cnt ≤ c12 ∧ c12 ≤ 9223372036854775807 from ⟨er1, er2⟩)
              clear HG er er1 er2 hrl HI
              go_wp2_with (at_builtin; obtain ⟨i0, hI, hz0, hz1, hz2⟩ := info_parts infoIntss; refine wpList_append_rows (by rfl) _ _ 30 (by rfl) 59 i0 _ 1 24 Tryd.underlying30 hI hz0 hz1 hz2 rfl (by decide) (HS.out.below ((Below.refl _ _).alloc (Nat.le_refl _) _)) (by rfl) _ _ 1 1 [.slice A12 cnt c12] (by rfl) (reads_blk (Blk.new _ _ _) rfl) (by simp [Value.oneCell']) (by unfold maxLen; omega) (by omega) ?_; intro v5 w5 M5 h5 _; obtain ⟨A5, c5, rfl⟩ := h5.form (.head _); have H5 := Lib.hid h5; clear h5 hI hz0 hz1 hz2)
              have T5 := Lib.hid (((H5.out.less (L' := [fun M W => Flat M W wl xs, fun M W => SlAt M W Ak ks, fun M W => SlAt M W A l]) (fun P hP => .tail _ (.tail _ hP))).flat (news := [recs]) (Flat.single ⟨A12, c12, by rw [HRL.out], by rw [HRL.out]; exact HE.out.1, HE.out.2, H5.out.fact (.head _)⟩)))
              clear H5 HS
              go_roundg (gk2 - 1)
              case measure => omega
              case rel =>
                refine ⟨k + 1, p, M5, wl ++ [recs], xs ++ [.slice A12 cnt c12], by omega, by go_num, rfl, by omega, by rw [List.length_append, HWL.out]; rfl, fun j hj => ?_, T5.out⟩
                by_cases hjw : j < wl.length
                · rw [List.getElem_append_left hjw]; exact HWB.out j hjw
                · obtain rfl : j = wl.length := by rw [List.length_append] at hj; simp at hj; omega
                  rw [List.getElem_append_right (Nat.le_refl _)]
                  simp only [Nat.sub_self, List.getElem_cons_zero]
                  rw [HWL.out]
                  exact ⟨by rw [HRL.out]; exact hc4, HRB.out⟩
        · obtain rfl : nk = k := by omega
          obtain ⟨Ar, cr, er, er1, er2, hsl⟩ := HO.out.rowSl (α := List (List Int)) (l := wl) (by rw [HWL.out]; exact .head _) (HO.out.fact (.head _))
          rw [HWL.out] at er er1
          obtain ⟨rfl, rfl⟩ : A9 = Ar ∧ c9 = cr := by injection er with h1 _ h2; exact ⟨h1, h2⟩
          have HE := Lib.hid (show nk ≤ c9 ∧ c9 ≤ 9223372036854775807 from ⟨er1, er2⟩)
          have HS := Lib.hid hsl
          have HB := Lib.hid HO.out.h.bl
          clear HO er er1 er2 hsl
          go_wp2_with fail
          go_returns
          exact ⟨wl, .slice A9 nk c9, rfl, ⟨A9, c9, by rw [HWL.out], by rw [HWL.out]; exact HE.out.1, HE.out.2, HS.out⟩, HWL.out, HWB.out, HB.out⟩
  end Go.Proofs.YtdpcdocaahjeoaaDoor
