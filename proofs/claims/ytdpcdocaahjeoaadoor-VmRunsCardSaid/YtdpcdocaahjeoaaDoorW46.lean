/- Program: the generator of programs. -/
import Derived.Test.YtdpcdocaahjeoaaDoorW45
namespace Go.Proofs.YtdpcdocaahjeoaaDoor
open Go Go.RowKit
set_option maxRecDepth 1000000 in
set_option maxHeartbeats 100000000 in
theorem program_any (x : Sch) (v : Value) (l : List Int) (A : Option Addr) (c : Nat) (w : World) (hx : SchV x w v) (hs : SlAt [] w A l) (hl : l.length ≤ 9223372036854775807) (hk1 : 1 ≤ (Sc.kinds x).length) (hk6 : (Sc.kinds x).length ≤ 6) (hf : ∀ kn ∈ Sc.kinds x, 1 ≤ (Sc.flds kn).length ∧ (Sc.flds kn).length ≤ 10) :
    Calls Tryd.prog 11 #[v, .slice A l.length c] w (ProgP (shp (Sc.kinds x)) w) := by
  obtain ⟨us, rfl, hu⟩ := hx
  obtain ⟨Ak, cp, B, d, C, e, rfl, s1, s2, s3, a1, b1, b2, b3, b4, b5, b6⟩ := rep_sch hu
  obtain ⟨n, hn⟩ : ∃ n, l.length = n := ⟨_, rfl⟩
  have HAT := Lib.hid (fun (i m : Int) (W : World) (h : SlAt [] W A l) => at_some A c l i m W h hl)
  rw [hn] at HAT
  obtain ⟨ks, hks⟩ : ∃ k, Sc.kinds x = k := ⟨_, rfl⟩
  rw [hks] at s1 hk1 hk6 hf b1 ⊢
  obtain ⟨nk, hnk⟩ : ∃ m, ks.length = m := ⟨_, rfl⟩
  have HNK := Lib.hid hnk
  have HFL := Lib.hid hf
  rw [hn, hnk]
  rw [hnk] at hk1 hk6
  generalize x.1 = ver at *
  generalize x.2.2.1.length = nl at *
  generalize x.2.2.2.length = nr at *
  have H := Lib.hid (HR.start ((((held0 w [] (fun _ h => by cases h)).add (keeps_sl A l) hs).add (keeps_sl Ak ks) s1).new #[.int .i64 ver, .slice Ak nk cp, .slice B nl d, .slice C nr e] 27 rfl))
  clear hu s1 s2 s3 a1 b1 b2 b3 b4 b5 b6 hs hks hn hnk hf hl
  go_enter Tryd.func11, Tryd.ntmps11
  go_upto_region 1 with fail
  generalize hW0 : w.alloc _ = W at H ⊢
  clear hW0
  obtain ⟨y0, y1, y2, y3⟩ := cells4 (H.out.box (.head _))
  have HSL := Lib.hid ((H.out.fact (.tail _ (.head _))).sub (G' := []) (fun g hg => nomatch hg))
  have HI := Lib.hid (show ∀ i : Nat, i ≤ 100 → inI (i : Int) from fun i hi => by unfold inI; omega)
  go_upto_region 2 with (go_at_call 35; refine (HAT.out 0 (nk : Int) _ HSL.out (HI.out 0 (by decide)) (by omega) (by omega)).mono ?_; rintro e w3 ⟨kz, rfl, z1, z2, rfl⟩; obtain ⟨k, rfl⟩ : ∃ z : Nat, kz = z := ⟨kz.toNat, by omega⟩)
  have hkn : k < nk := by omega
  have hkl : k < ks.length := by rw [HNK.out]; exact hkn
  have hfl := HFL.out _ (List.getElem_mem hkl)
  obtain ⟨b9, o9, B9, d9, rfl, _, c0, c1, c2, c3, hs9, _⟩ := knd_at (H.out.fact (.head _)) k hkl
  obtain ⟨m, hm⟩ : ∃ m, (Sc.flds ks[k]).length = m := ⟨_, rfl⟩
  rw [hm] at c3 hfl
  have k1 : (k : Int) < (nk : Int) := by omega
  have k0 : (0 : Int) ≤ (k : Int) := by omega
  obtain ⟨hfl1, hfl2⟩ := hfl
  go_upto_region 3 with (go_at_call 35; refine (HAT.out 1 (m : Int) _ HSL.out (HI.out 1 (by decide)) (by omega) (by omega)).mono ?_; rintro e w3 ⟨fz, rfl, z3, z4, rfl⟩; obtain ⟨f, rfl⟩ : ∃ z : Nat, fz = z := ⟨fz.toNat, by omega⟩)
  have hfm : f < m := by omega
  have HF := Lib.hid (show ∃ h : k < ks.length, f < (Sc.flds ks[k]).length from ⟨hkl, by rw [hm]; exact hfm⟩)
  clear z1 z2 z3 z4
  go_upto_region 4 with (go_at_call 35; refine (HAT.out 2 12 _ HSL.out (HI.out 2 (by decide)) (by omega) (by omega)).mono ?_; rintro e w3 ⟨nz, rfl, z1, z2, rfl⟩)
  obtain ⟨nn, hnn⟩ : ∃ z, nz - 2 = z := ⟨_, rfl⟩
  rw [hnn]
  have hnn2 : -2 ≤ nn ∧ nn ≤ 10 := by omega
  clear hnn z1 z2
  go_upto_region 5 with (go_at_call 35; refine (HAT.out 3 3 _ HSL.out (HI.out 3 (by decide)) (by omega) (by omega)).mono ?_; rintro e w3 ⟨cz, rfl, z1, z2, rfl⟩)
  obtain ⟨code, hcode⟩ : ∃ z, 1 + cz = z := ⟨_, rfl⟩
  rw [hcode]
  have hco : 1 ≤ code ∧ code ≤ 3 := by omega
  clear hcode z1 z2
  go_upto_region 6 with (go_at_call 35; refine (HAT.out 4 2 _ HSL.out (HI.out 4 (by decide)) (by omega) (by omega)).mono ?_; rintro e w3 ⟨oz, rfl, z1, z2, rfl⟩)
  obtain ⟨op, hop0⟩ : ∃ z, 7 + oz = z := ⟨_, rfl⟩
  rw [hop0]
  have hop : op = 7 ∨ op = 8 := by omega
  clear hop0 z1 z2
  go_upto_region 9 with (go_at_call 35; refine (HAT.out 5 6 _ HSL.out (HI.out 5 (by decide)) (by omega) (by omega)).mono ?_; rintro e w3 ⟨z, rfl, z1, z2, rfl⟩)
  have hR : ∀ a w', bodyPost Tryd.prog Tryd.f11 (ProgP (shp ks) w) .ret a w' → bodyPost Tryd.prog Tryd.f11 (ProgP (shp ks) w) .ret a w' := fun _ _ h => h
  have Z0 : ∀ mm : Int, 0 ≤ mm → mm ≤ 5 → ProgP (shp ks) w (.returned (.slice (some ⟨W.heap.size, 0, none⟩) 4 4)) (W.alloc (.cells #[.int .i64 4, .int .i64 1, .int .i64 (k : Int), .int .i64 0, .int .i64 1, .int .i64 2, .int .i64 mm, .int .i64 0, .int .i64 7, .int .i64 1, .int .i64 2, .int .i64 4, .int .i64 0, .int .i64 code, .int .i64 0, .int .i64 0] 58)) := by
    intro mm m1 m2
    obtain ⟨M2, T, _⟩ := H.out.take ((Below.refl _ _).alloc (Nat.le_refl _) (.cells #[.int .i64 4, .int .i64 1, .int .i64 (k : Int), .int .i64 0, .int .i64 1, .int .i64 2, .int .i64 mm, .int .i64 0, .int .i64 7, .int .i64 1, .int .i64 2, .int .i64 4, .int .i64 0, .int .i64 code, .int .i64 0, .int .i64 0] 58)) (World.ownsRow_lit W #[.int .i64 4, .int .i64 1, .int .i64 (k : Int), .int .i64 0, .int .i64 1, .int .i64 2, .int .i64 mm, .int .i64 0, .int .i64 7, .int .i64 1, .int .i64 2, .int .i64 4, .int .i64 0, .int .i64 code, .int .i64 0, .int .i64 0] 4 (size := 4) (Nat.le_refl _) (by decide) rfl)
    refine progP_of T (p := [(4, 1, (k : Int), 0), (1, 2, mm, 0), (7, 1, 2, 4), (0, code, 0, 0)]) rfl rfl ⟨by simp, fun i hi => ?_, fun i hi => ?_⟩
    · simp only [List.mem_cons, List.not_mem_nil, or_false] at hi
      rcases hi with rfl | rfl | rfl | rfl
      · exact Vm.ok_size (by omega) (by omega) (by omega) (by omega)
      · exact Vm.ok_load (by omega) (by omega) (by omega) (by omega)
      · exact Vm.ok_less (.inl rfl) (by omega) (by omega) (by omega) (by omega) (by omega) (by simp)
      · exact Vm.ok_stop (by omega) (by omega)
    · simp only [List.mem_cons, List.not_mem_nil, or_false] at hi
      rcases hi with rfl | rfl | rfl | rfl
      · exact Vm.nm_size (by rw [shp_len, HNK.out]; omega)
      · exact Vm.nm_other (by simp) (by simp)
      · exact Vm.nm_other (by simp) (by simp)
      · exact Vm.nm_other (by simp) (by simp)
  have HZ0 := Lib.hid Z0
  have HRR := Lib.hid hR
  have HM := Lib.hid hm
  clear Z0 hR hm
  rcases (show z = 0 ∨ z = 1 ∨ z = 2 ∨ z = 3 ∨ z = 4 ∨ z = 5 by omega) with rfl | rfl | rfl | rfl | rfl | rfl
  · have hn1 : (1 : Int) ≤ nn ∨ nn < 1 := by omega
    rcases hn1 with hn1 | hn1
    · have hn0 : (0 : Int) ≤ nn := by omega
      go_wp2_with fail
      go_ret
      exact HZ0.out _ (by omega) (by omega)
    · go_wp2_with fail
      go_ret
      exact HZ0.out _ (by omega) (by omega)
  · go_upto_if 60 with fail
    exact prog_1 H HAT HNK hkn hk6 HFL HF hnn2 hco hop (fun a w' h => by simpa [Exit.then, Exit.inBlock] using h)
  · go_upto_if 130 with fail
    exact prog_2 H HAT HNK hkn hk6 HFL HF hnn2 hco hop (fun a w' h => by simpa [Exit.then, Exit.inBlock] using h)
  · obtain ⟨b8, o8, _, _, _, _, rfl, _, _, _, _, e3, _⟩ := fld_at hs9 f (by rw [HM.out]; exact hfm)
    obtain ⟨y, hy⟩ : ∃ y, Sc.kd ((Sc.flds ks[k])[f]'(by rw [HM.out]; exact hfm)) = y := ⟨_, rfl⟩
    rw [hy] at e3
    clear hy
    have k3 : (f : Int) < (m : Int) := by omega
    have k4 : (0 : Int) ≤ (f : Int) := by omega
    have hffl : f < (Sc.flds ks[k]).length := by rw [HM.out]; exact hfm
    have CU := Lib.hid (up_any ks (some ⟨b9, o9, none⟩) cp ver B C nl d nr e k f W ((H.out.fact (.head _)).sub (G' := []) (fun g hg => nomatch hg)) (by rw [HNK.out]; omega) hkl hffl)
    rw [HNK.out] at CU
    obtain ⟨up, hup⟩ : ∃ u, Sc.upOf ks k f = u := ⟨_, rfl⟩
    rw [hup] at CU
    obtain ⟨hu1, hu2⟩ : -1 ≤ up ∧ up < k := by rw [← hup]; exact Sc.upOf_bd ks k f
    clear hup hs9
    by_cases hy1 : y = 1
    · subst hy1
      go_upto_if 223 with (go_at_call 36; ((with_reducible refine (CU.out).mono ?_)); rintro e w3 ⟨rfl, hb⟩; have T5 := Lib.hid (H.out.below hb); clear hb)
      clear H HSL y0 y1 y2 y3 c0 c1 c2 c3 e3 CU HZ0
      have H := T5
      clear T5
      by_cases hu0 : 0 ≤ up
      · have t0 : decide (0 ≤ up) = true := decide_eq_true hu0
        obtain ⟨un, rfl⟩ : ∃ z : Nat, up = z := ⟨up.toNat, by omega⟩
        have hul : un < ks.length := by rw [HNK.out]; omega
        have hufl := HFL.out _ (List.getElem_mem hul)
        obtain ⟨y0, y1, y2, y3⟩ := cells4 (H.out.box (.head _))
        obtain ⟨b7, o7, B7, d7, hbo, _, c0, c1, c2, c3, _⟩ := knd_at (H.out.fact (.head _)) un hul
        obtain ⟨rfl, rfl⟩ := addr_inj hbo
        obtain ⟨mu, hmu⟩ : ∃ m, (Sc.flds ks[un]).length = m := ⟨_, rfl⟩
        rw [hmu] at c3 hufl
        obtain ⟨hufl1, hufl2⟩ := hufl
        have HMU := Lib.hid hmu
        have k5 : (un : Int) < (nk : Int) := by omega
        have k6 : (0 : Int) ≤ (un : Int) := by omega
        have HSL := Lib.hid ((H.out.fact (.tail _ (.head _))).sub (G' := []) (fun g hg => nomatch hg))
        clear hmu hbo
        go_upto_region 57 with (go_at_call 35; refine (HAT.out 6 (mu : Int) _ HSL.out (HI.out 6 (by decide)) (by omega) (by omega)).mono ?_; rintro e w3 ⟨g, rfl, z1, z2, rfl⟩)
        have HUG := Lib.hid (show 0 ≤ (un : Int) → (un : Int) < (shp ks).length ∧ 0 ≤ g ∧ g < (((shp ks).getD (un : Int).toNat 0 : Nat) : Int) ∧ g ≤ 9 from fun _ => ⟨by rw [shp_len, HNK.out]; omega, z1, by rw [Int.toNat_natCast, shp_get hul, HMU.out]; exact z2, by omega⟩)
        clear z1 z2 HSL y0 y1 y2 y3 c0 c1 c2 c3
        obtain ⟨P, hP⟩ : ∃ P, Vm.overP (k : Int) (f : Int) (un : Int) g op nn code = P := ⟨_, rfl⟩
        have HPF := Lib.hid (show Vm.Fine (shp ks) 11 P by
          rw [← hP]
          exact Vm.over_fine (by omega) (by rw [shp_len, HNK.out]; omega) (by rw [shp_len, HNK.out]; omega) (by omega) (by rw [Int.toNat_natCast, shp_get hkl]; omega) (by omega) HUG.out hop (by omega) (by omega) (by omega) (by omega))
        have CL := Lib.hid (fun W => loop_any (k : Int) (f : Int) (un : Int) g op nn code W)
        rw [hP] at CL
        clear hP
        go_wp2_with (go_at_call 37; ((with_reducible refine (CL.out _).mono ?_)); rintro e w3 ⟨v14, rfl, hown, hb⟩; obtain ⟨M3, T3, _⟩ := H.out.take hb hown; obtain ⟨A14, c14, rfl⟩ := T3.form (.head _); have H3 := Lib.hid T3; clear T3 hown hb)
        go_ret
        exact progP_of H3.out rfl rfl ⟨by have := HPF.out.len; omega, HPF.out.ok, HPF.out.nm⟩
      · have t0 : decide (0 ≤ up) = false := decide_eq_false hu0
        have HUG := Lib.hid (show 0 ≤ up → up < (shp ks).length ∧ (0 : Int) ≤ 0 ∧ (0 : Int) < (((shp ks).getD up.toNat 0 : Nat) : Int) ∧ (0 : Int) ≤ 9 from fun h => absurd h hu0)
        obtain ⟨P, hP⟩ : ∃ P, Vm.overP (k : Int) (f : Int) up 0 op nn code = P := ⟨_, rfl⟩
        have HPF := Lib.hid (show Vm.Fine (shp ks) 11 P by
          rw [← hP]
          exact Vm.over_fine (by omega) (by rw [shp_len, HNK.out]; omega) (by rw [shp_len, HNK.out]; omega) (by omega) (by rw [Int.toNat_natCast, shp_get hkl]; omega) (by omega) HUG.out hop (by omega) (by omega) (by omega) (by omega))
        have CL := Lib.hid (fun W => loop_any (k : Int) (f : Int) up 0 op nn code W)
        rw [hP] at CL
        clear hP
        go_wp2_with (go_at_call 37; ((with_reducible refine (CL.out _).mono ?_)); rintro e w3 ⟨v14, rfl, hown, hb⟩; obtain ⟨M3, T3, _⟩ := H.out.take hb hown; obtain ⟨A14, c14, rfl⟩ := T3.form (.head _); have H3 := Lib.hid T3; clear T3 hown hb)
        go_ret
        exact progP_of H3.out rfl rfl ⟨by have := HPF.out.len; omega, HPF.out.ok, HPF.out.nm⟩
    · have t1 : (y == 1) = false := beq_eq_false_iff_ne.2 hy1
      have HUG := Lib.hid (show (0 : Int) ≤ -1 → (-1 : Int) < (shp ks).length ∧ (0 : Int) ≤ 0 ∧ (0 : Int) < (((shp ks).getD (-1 : Int).toNat 0 : Nat) : Int) ∧ (0 : Int) ≤ 9 from fun h => absurd h (by decide))
      obtain ⟨P, hP⟩ : ∃ P, Vm.overP (k : Int) (f : Int) (-1) 0 op nn code = P := ⟨_, rfl⟩
      have HPF := Lib.hid (show Vm.Fine (shp ks) 11 P by
        rw [← hP]
        exact Vm.over_fine (by omega) (by rw [shp_len, HNK.out]; omega) (by rw [shp_len, HNK.out]; omega) (by omega) (by rw [Int.toNat_natCast, shp_get hkl]; omega) (by omega) HUG.out hop (by omega) (by omega) (by omega) (by omega))
      have CL := Lib.hid (fun W => loop_any (k : Int) (f : Int) (-1) 0 op nn code W)
      rw [hP] at CL
      clear hP
      go_wp2_with (go_at_call 37; ((with_reducible refine (CL.out _).mono ?_)); rintro e w3 ⟨v14, rfl, hown, hb⟩; obtain ⟨M3, T3, _⟩ := H.out.take hb hown; obtain ⟨A14, c14, rfl⟩ := T3.form (.head _); have H3 := Lib.hid T3; clear T3 hown hb)
      go_ret
      exact progP_of H3.out rfl rfl ⟨by have := HPF.out.len; omega, HPF.out.ok, HPF.out.nm⟩
  · have hffl : f < (Sc.flds ks[k]).length := by rw [HM.out]; exact hfm
    have HUG := Lib.hid (show (0 : Int) ≤ -1 → (-1 : Int) < (shp ks).length ∧ (0 : Int) ≤ 0 ∧ (0 : Int) < (((shp ks).getD (-1 : Int).toNat 0 : Nat) : Int) ∧ (0 : Int) ≤ 9 from fun h => absurd h (by decide))
    obtain ⟨P, hP⟩ : ∃ P, Vm.overP (k : Int) (f : Int) (-1) 0 op nn code = P := ⟨_, rfl⟩
    have HPF := Lib.hid (show Vm.Fine (shp ks) 11 P by
      rw [← hP]
      exact Vm.over_fine (by omega) (by rw [shp_len, HNK.out]; omega) (by rw [shp_len, HNK.out]; omega) (by omega) (by rw [Int.toNat_natCast, shp_get hkl]; omega) (by omega) HUG.out hop (by omega) (by omega) (by omega) (by omega))
    have CL := Lib.hid (fun W => loop_any (k : Int) (f : Int) (-1) 0 op nn code W)
    rw [hP] at CL
    clear hP
    go_wp2_with (go_at_call 37; ((with_reducible refine (CL.out _).mono ?_)); rintro e w3 ⟨v14, rfl, hown, hb⟩; obtain ⟨M3, T3, _⟩ := H.out.take hb hown; obtain ⟨A14, c14, rfl⟩ := T3.form (.head _); have H3 := Lib.hid T3; clear T3 hown hb)
    go_ret
    exact progP_of H3.out rfl rfl ⟨by have := HPF.out.len; omega, HPF.out.ok, HPF.out.nm⟩
  · have hffl : f < (Sc.flds ks[k]).length := by rw [HM.out]; exact hfm
    have HUG := Lib.hid (show (0 : Int) ≤ -1 → (-1 : Int) < (shp ks).length ∧ (0 : Int) ≤ 0 ∧ (0 : Int) < (((shp ks).getD (-1 : Int).toNat 0 : Nat) : Int) ∧ (0 : Int) ≤ 9 from fun h => absurd h (by decide))
    obtain ⟨P, hP⟩ : ∃ P, Vm.overP (k : Int) (f : Int) (-1) 0 op nn code = P := ⟨_, rfl⟩
    have HPF := Lib.hid (show Vm.Fine (shp ks) 11 P by
      rw [← hP]
      exact Vm.over_fine (by omega) (by rw [shp_len, HNK.out]; omega) (by rw [shp_len, HNK.out]; omega) (by omega) (by rw [Int.toNat_natCast, shp_get hkl]; omega) (by omega) HUG.out hop (by omega) (by omega) (by omega) (by omega))
    have CL := Lib.hid (fun W => loop_any (k : Int) (f : Int) (-1) 0 op nn code W)
    rw [hP] at CL
    clear hP
    go_wp2_with (go_at_call 37; ((with_reducible refine (CL.out _).mono ?_)); rintro e w3 ⟨v14, rfl, hown, hb⟩; obtain ⟨M3, T3, _⟩ := H.out.take hb hown; obtain ⟨A14, c14, rfl⟩ := T3.form (.head _); have H3 := Lib.hid T3; clear T3 hown hb)
    go_ret
    exact progP_of H3.out rfl rfl ⟨by have := HPF.out.len; omega, HPF.out.ok, HPF.out.nm⟩
end Go.Proofs.YtdpcdocaahjeoaaDoor
