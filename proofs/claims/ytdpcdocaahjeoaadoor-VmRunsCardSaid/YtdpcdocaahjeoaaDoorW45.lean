/- Program: its third way. -/
import Derived.Test.YtdpcdocaahjeoaaDoorW44
namespace Go.Proofs.YtdpcdocaahjeoaaDoor
open Go Go.RowKit
namespace Vm
/-- A number that fits a sort, and is the kind, the field, where the sort asks for one. -/
structure FitV (s : Nat) (N k f m : Int) : Prop where
  ft : fits s m N = true
  kd : s = 4 → m = k
  fd : s = 5 → m = f
def chr (s : Nat) : Int := ([45, 99, 114, 110, 107, 102, 105] : List Int).getD s 0
theorem sortOf_le (o j : Nat) : sortOf (o : Int) j ≤ 6 := by
  unfold sortOf
  repeat' split
  all_goals first | omega | (match j with | 0 | 1 | 2 => decide | (j + 3) => simp)
theorem ok_three {N k f a b c : Int} {s : Shape} {o : Nat} (ho : o < 9) (h0 : FitV (sortOf (o : Int) 0) N k f a) (h1 : FitV (sortOf (o : Int) 1) N k f b) (h2 : FitV (sortOf (o : Int) 2) N k f c) (hk : k < s.length) (hf : f < ((s.getD k.toNat 0 : Nat) : Int)) : insOk N ((o : Int), a, b, c) = true ∧ nmOk s ((o : Int), a, b, c) = true := by
  refine ⟨?_, ?_⟩
  · unfold insOk
    simp only [h0.ft, h1.ft, h2.ft, Bool.and_true, Bool.and_eq_true, decide_eq_true_eq]
    omega
  · by_cases h4 : o = 4
    · subst h4
      have := h1.kd rfl
      subst this
      exact nm_size hk
    · by_cases h5 : o = 5
      · subst h5
        have e1 := h1.kd rfl
        have e2 := h2.fd rfl
        subst e1 e2
        exact nm_get hk hf
      · exact nm_other (by show (o : Int) ≠ 4; omega) (by show (o : Int) ≠ 5; omega)
theorem fitV_bd {s : Nat} {N k f m : Int} (h : FitV s N k f m) (hN : N ≤ 100) : -1048576 ≤ m ∧ m ≤ 1048576 := by
  have := h.ft
  unfold fits at this
  repeat' split at this
  all_goals simp at this
  all_goals omega
end Vm
theorem sortS_chr (o j : Nat) (ho : o < 9) (hj : j < 3) (s : ByteArray) (hs : sortS o = s) (h : j < s.size) : ((s[j]'h).toNat : Int) = Vm.chr (Vm.sortOf (o : Int) j) := by
  subst hs
  match o, ho, j, hj with
  | 0, _, 0, _ | 0, _, 1, _ | 0, _, 2, _ | 1, _, 0, _ | 1, _, 1, _ | 1, _, 2, _ | 2, _, 0, _ | 2, _, 1, _ | 2, _, 2, _ | 3, _, 0, _ | 3, _, 1, _ | 3, _, 2, _ | 4, _, 0, _ | 4, _, 1, _ | 4, _, 2, _ | 5, _, 0, _ | 5, _, 1, _ | 5, _, 2, _ | 6, _, 0, _ | 6, _, 1, _ | 6, _, 2, _ | 7, _, 0, _ | 7, _, 1, _ | 7, _, 2, _ | 8, _, 0, _ | 8, _, 1, _ | 8, _, 2, _ => rfl
theorem fitV_snoc {o : Nat} {N k f m : Int} {vs : List Int} (h : ∀ t (ht : t < vs.length), Vm.FitV (Vm.sortOf (o : Int) t) N k f vs[t]) (hm : Vm.FitV (Vm.sortOf (o : Int) vs.length) N k f m) : ∀ t (ht : t < (vs ++ [m]).length), Vm.FitV (Vm.sortOf (o : Int) t) N k f (vs ++ [m])[t] := by
  intro t ht
  by_cases h1 : t < vs.length
  · rw [List.getElem_append_left h1]; exact h t h1
  · obtain rfl : t = vs.length := by rw [List.length_append, List.length_singleton] at ht; omega
    rw [List.getElem_append_right (Nat.le_refl _)]
    simp only [Nat.sub_self, List.getElem_cons_zero]
    exact hm
theorem three_of {l : List Int} (h : l.length = 3) : ∃ a b c, l = [a, b, c] := by
  match l, h with
  | [a, b, c], _ => exact ⟨a, b, c, rfl⟩
set_option maxRecDepth 1000000 in
set_option maxHeartbeats 100000000 in
theorem prog_2 {w W : World} {M : List Nat} {xb : Nat} {ver : Int} {Ak B C A : Option Addr} {nk cp nl d nr e n c k f : Nat} {ks : List Knd} {l : List Int} {nn code op : Int} {Q : Exit → Act → World → Prop} {u0 u3 u10 u11 u12 u13 u14 u15 u16 u17 u18 u19 u20 u21 u22 u23 u24 u25 u26 u27 u28 u29 u30 u31 u32 u33 u34 u35 u36 u37 u38 u39 u40 u41 u42 u43 u44 u45 u46 u47 u48 u49 u50 u51 u52 u53 u54 u55 u56 u57 u58 u59 u60 u61 u62 u63 u64 u65 u66 u67 u68 u69 u70 u71 u72 u73 u74 u75 u76 u77 u78 u79 u80 u81 u82 u83 u84 u85 u86 u87 u88 u89 u90 u91 u92 u93 u94 u95 u96 u97 u98 u99 u100 u101 u102 u103 u104 u105 u106 u107 u108 u109 u110 u111 u112 u113 u114 u115 u116 u117 u118 u119 u120 u121 u122 u123 u124 u125 u126 u127 u128 u129 u131 u132 u133 u134 u135 u136 u137 u138 u139 u140 u141 u142 u143 u144 u145 u146 u147 u148 u149 u150 u151 u152 u153 u154 u155 u156 u157 u158 u159 u160 u161 u162 u163 u164 u165 u166 u167 u168 u169 u170 u171 u172 u173 u174 u175 u176 u177 u178 u179 u180 u181 u182 u183 u184 u185 u186 u187 u188 u189 u190 u191 u192 u193 u194 u195 u196 u197 u198 u199 u200 u201 u202 u203 u204 u205 u206 u207 u208 u209 u210 u211 u212 u213 u214 u215 u216 u217 u218 u219 u220 u221 u222 u223 u224 u225 u226 u227 u228 u229 u230 u231 u232 u233 u234 u235 u236 u237 u238 u239 u240 : Value} (H : Hid (PState w M xb ver Ak B C A nk cp nl d nr e ks l W)) (HAT : Hid (AtC A n c l)) (HNK : Hid (ks.length = nk)) (hk : k < nk) (hk6 : nk ≤ 6) (HFL : Hid (∀ kn ∈ ks, 1 ≤ (Sc.flds kn).length ∧ (Sc.flds kn).length ≤ 10)) (HF : Hid (∃ h : k < ks.length, f < (Sc.flds ks[k]).length)) (_hnn : -2 ≤ nn ∧ nn ≤ 10) (_hcode : 1 ≤ code ∧ code ≤ 3) (_hop : op = 7 ∨ op = 8) (hR : ∀ a w', bodyPost Tryd.prog Tryd.f11 (ProgP (shp ks) w) .ret a w' → Q .ret a w') :
    Code.wp Tryd.prog (progAt 130) Q ⟨(u0 :: .slice A n c :: .pointer (some ⟨xb, 0, none⟩) :: u3 :: .slice none 0 0 :: .int .i64 (k : Int) :: .int .i64 (f : Int) :: .int .i64 nn :: .int .i64 code :: .int .i64 op :: u10 :: u11 :: u12 :: u13 :: u14 :: u15 :: u16 :: u17 :: u18 :: u19 :: u20 :: u21 :: u22 :: u23 :: u24 :: u25 :: u26 :: u27 :: u28 :: u29 :: u30 :: u31 :: u32 :: u33 :: u34 :: u35 :: u36 :: u37 :: u38 :: u39 :: u40 :: u41 :: u42 :: u43 :: u44 :: u45 :: u46 :: u47 :: u48 :: u49 :: u50 :: u51 :: u52 :: u53 :: u54 :: u55 :: u56 :: u57 :: u58 :: u59 :: u60 :: u61 :: u62 :: u63 :: u64 :: u65 :: u66 :: u67 :: u68 :: u69 :: u70 :: u71 :: u72 :: u73 :: u74 :: u75 :: u76 :: u77 :: u78 :: u79 :: u80 :: u81 :: u82 :: u83 :: u84 :: u85 :: u86 :: u87 :: u88 :: u89 :: u90 :: u91 :: u92 :: u93 :: u94 :: u95 :: u96 :: u97 :: u98 :: u99 :: u100 :: u101 :: u102 :: u103 :: u104 :: u105 :: u106 :: u107 :: u108 :: u109 :: u110 :: u111 :: u112 :: u113 :: u114 :: u115 :: u116 :: u117 :: u118 :: u119 :: u120 :: u121 :: u122 :: u123 :: u124 :: u125 :: u126 :: u127 :: u128 :: u129 :: .bool true :: u131 :: u132 :: u133 :: u134 :: u135 :: u136 :: u137 :: u138 :: u139 :: u140 :: u141 :: u142 :: u143 :: u144 :: u145 :: u146 :: u147 :: u148 :: u149 :: u150 :: u151 :: u152 :: u153 :: u154 :: u155 :: u156 :: u157 :: u158 :: u159 :: u160 :: u161 :: u162 :: u163 :: u164 :: u165 :: u166 :: u167 :: u168 :: u169 :: u170 :: u171 :: u172 :: u173 :: u174 :: u175 :: u176 :: u177 :: u178 :: u179 :: u180 :: u181 :: u182 :: u183 :: u184 :: u185 :: u186 :: u187 :: u188 :: u189 :: u190 :: u191 :: u192 :: u193 :: u194 :: u195 :: u196 :: u197 :: u198 :: u199 :: u200 :: u201 :: u202 :: u203 :: u204 :: u205 :: u206 :: u207 :: u208 :: u209 :: u210 :: u211 :: u212 :: u213 :: u214 :: u215 :: u216 :: u217 :: u218 :: u219 :: u220 :: u221 :: u222 :: u223 :: u224 :: u225 :: u226 :: u227 :: u228 :: u229 :: u230 :: u231 :: u232 :: u233 :: u234 :: u235 :: u236 :: u237 :: u238 :: u239 :: u240 :: []).toArray, []⟩ W := by
  conv => arg 2; whnf
  have HSL := Lib.hid ((H.out.fact (.tail _ (.head _))).sub (G' := []) (fun g hg => nomatch hg))
  have HK6 := Lib.hid (show inI 6 by unfold inI; omega)
  go_wp2_with (go_at_call 35; refine (HAT.out 6 9 _ HSL.out HK6.out (by omega) (by omega)).mono ?_; rintro e w3 ⟨mz, rfl, m1, m2, rfl⟩; obtain ⟨mn, rfl⟩ : ∃ z : Nat, mz = z := ⟨mz.toNat, by omega⟩)
  have hm8 : mn ≤ 8 := by omega
  clear HSL HK6 m1 m2
  go_loopg [16, 18] mn (fun r v16 v18 wr => ∃ (i : Nat) (M : List Nat) (ps : List Vm.Ins), i + r = mn ∧ v18 = .int .i64 i ∧ ps.length = i ∧ (∀ x ∈ ps, Vm.insOk mn x = true ∧ Vm.nmOk (shp ks) x = true) ∧ HR w [] M [(xb, 27, #[.int .i64 ver, .slice Ak nk cp, .slice B nl d, .slice C nr e])] [⟨58, 4, v16, i, insVals ps⟩] [fun M W => SlAt M W Ak ks, fun M W => SlAt M W A l] wr)
  case atStart => exact ⟨0, _, [], by omega, rfl, rfl, (fun x h => by cases h), H.out.push 58 4⟩
  case round =>
    obtain ⟨i, M2, ps, hi, rfl, hpl, hps, HT⟩ := hrel
    clear H
    obtain ⟨wa, rfl⟩ : ∃ wo : World, wo = wr := ⟨_, rfl⟩
    obtain ⟨gk2, rfl⟩ : ∃ g, g = gk := ⟨_, rfl⟩
    obtain ⟨A16, c16, rfl⟩ := HT.form (.head _)
    have H := Lib.hid HT
    have HPL := Lib.hid hpl
    have HPS := Lib.hid hps
    clear HT hpl hps
    by_cases hlt : i < mn
    · have k1 : (i : Int) < (mn : Int) := by omega
      have k0 : (0 : Int) ≤ (i : Int) := by omega
      have HSL := Lib.hid ((H.out.fact (.tail _ (.head _))).sub (G' := []) (fun g hg => nomatch hg))
      go_wp2_with (go_at_call 35; refine (HAT.out _ 9 _ HSL.out (by unfold inI; omega) (by omega) (by omega)).mono ?_; rintro e w3 ⟨oz, rfl, o1, o2, rfl⟩; obtain ⟨o, rfl⟩ : ∃ z : Nat, oz = z := ⟨oz.toNat, by omega⟩)
      have ho9 : o < 9 := by omega
      clear o1 HSL
      go_loopg [20, 21] 3 (fun r v20 v21 wr => ∃ (j : Nat) (M : List Nat) (vs : List Int), j + r = 3 ∧ v21 = .int .i64 j ∧ vs.length = j ∧ (∀ t (h : t < vs.length), Vm.FitV (Vm.sortOf (o : Int) t) mn k f vs[t]) ∧ HR w [] M [(xb, 27, #[.int .i64 ver, .slice Ak nk cp, .slice B nl d, .slice C nr e])] [⟨3, 1, v20, j, intVals vs⟩, ⟨58, 4, .slice A16 i c16, i, insVals ps⟩] [fun M W => SlAt M W Ak ks, fun M W => SlAt M W A l] wr)
      case atStart => exact ⟨0, _, [], by omega, rfl, rfl, (fun t h => by simp at h), H.out.push 3 1⟩
      case round =>
        obtain ⟨j, M3, vs, hj, rfl, hvl, hvs, HT⟩ := hrel
        clear H
        obtain ⟨wb, rfl⟩ : ∃ wo : World, wo = wr := ⟨_, rfl⟩
        obtain ⟨A20, c20, rfl⟩ := HT.form (.head _)
        have H := Lib.hid HT
        have HVL := Lib.hid hvl
        have HVS := Lib.hid hvs
        clear HT hvl hvs
        by_cases hlt2 : j < 3
        · have k2 : (j : Int) < 3 := by omega
          have k3 : (0 : Int) ≤ (j : Int) := by omega
          have HSL := Lib.hid ((H.out.fact (.tail _ (.head _))).sub (G' := []) (fun g hg => nomatch hg))
          obtain ⟨s, hs⟩ : ∃ s, sortS o = s := ⟨_, rfl⟩
          have hs3 : s.size = 3 := by rw [← hs]; exact sortS_size o ho9
          have hsj : j < s.size := by omega
          have hy0 := sortS_chr o j ho9 hlt2 s hs hsj
          obtain ⟨y, hy⟩ : ∃ y : Int, ((s[j]'hsj).toNat : Int) = y := ⟨_, rfl⟩
          rw [hy] at hy0
          have HY := Lib.hid hy0
          have HST := Lib.hid hs
          have hso := Vm.sortOf_le o j
          obtain ⟨so, hsoe⟩ : ∃ so, Vm.sortOf (o : Int) j = so := ⟨_, rfl⟩
          rw [hsoe] at HY hso
          have HSO := Lib.hid hsoe
          clear hs hy0 hsoe
          go_upto_region 35 with (go_at_call 35; refine (HAT.out _ 720 _ HSL.out (by unfold inI; omega) (by omega) (by omega)).mono ?_; rintro e w3 ⟨mz, rfl, z1, z2, rfl⟩; obtain ⟨mm, rfl⟩ : ∃ z : Nat, mz = z := ⟨mz.toNat, by omega⟩)
          clear HSL
          go_upto_block 7 with (go_at_call 38; refine (rSorts_any _).mono ?_; rintro e w3 ⟨gs, rfl, _, hblk, hb⟩; have H2 := Lib.hid (H.out.below hb); have qs := (hblk.cell o).trans (sstr_get o ho9); rw [HST.out] at qs; clear hb hblk H)
          clear qs
          go_cut [22] from 144 to 189 (fun v22 w' => ∃ m' : Int, v22 = .int .i64 m' ∧ Vm.FitV so mn k f m' ∧ HR w [] M3 [(xb, 27, #[.int .i64 ver, .slice Ak nk cp, .slice B nl d, .slice C nr e])] [⟨3, 1, .slice A20 j c20, j, intVals vs⟩, ⟨58, 4, .slice A16 i c16, i, insVals ps⟩] [fun M W => SlAt M W Ak ks, fun M W => SlAt M W A l] w')
          case first =>
            have hfk := HF.out
            have hfb : f ≤ 9 := by obtain ⟨hk', hff⟩ := hfk; have := (HFL.out _ (List.getElem_mem hk')).2; omega
            have hyo := HY.out
            rcases (show so = 0 ∨ so = 1 ∨ so = 2 ∨ so = 3 ∨ so = 4 ∨ so = 5 ∨ so = 6 by omega) with rfl | rfl | rfl | rfl | rfl | rfl | rfl
            · obtain rfl : y = 45 := hyo
              go_wp2_with fail
              go_meet
              case rel => exact ⟨_, rfl, ⟨by simp [Vm.fits], (fun h => by cases h), (fun h => by cases h)⟩, H2.out⟩
            · obtain rfl : y = 99 := hyo
              go_wp2_with fail
              go_meet
              case rel => exact ⟨_, rfl, ⟨by simp [Vm.fits]; omega, (fun h => by cases h), (fun h => by cases h)⟩, H2.out⟩
            · obtain rfl : y = 114 := hyo
              go_wp2_with fail
              go_meet
              case rel => exact ⟨_, rfl, ⟨by simp [Vm.fits]; omega, (fun h => by cases h), (fun h => by cases h)⟩, H2.out⟩
            · obtain rfl : y = 110 := hyo
              go_wp2_with fail
              go_meet
              case rel => exact ⟨_, rfl, ⟨by simp [Vm.fits]; omega, (fun h => by cases h), (fun h => by cases h)⟩, H2.out⟩
            · obtain rfl : y = 107 := hyo
              go_wp2_with fail
              go_meet
              case rel => exact ⟨_, rfl, ⟨by simp [Vm.fits]; omega, (fun h => rfl), (fun h => by cases h)⟩, H2.out⟩
            · obtain rfl : y = 102 := hyo
              go_wp2_with fail
              go_meet
              case rel => exact ⟨_, rfl, ⟨by simp [Vm.fits]; omega, (fun h => by cases h), (fun h => rfl)⟩, H2.out⟩
            · obtain rfl : y = 105 := hyo
              have e1 : ((mn : Int) + 1 == 0) = false := by rw [beq_eq_false_iff_ne]; omega
              go_wp2_with fail
              go_meet
              case rel => exact ⟨_, rfl, ⟨by have h1 := Int.emod_nonneg (mm : Int) (show (mn : Int) + 1 ≠ 0 by omega); have h2 := Int.emod_lt_of_pos (mm : Int) (show 0 < (mn : Int) + 1 by omega); simp [Vm.fits]; omega, (fun h => by cases h), (fun h => by cases h)⟩, H2.out⟩
          case rest =>
            clear H2
            obtain ⟨m', rfl, hfit, HT⟩ := hcut
            have H := Lib.hid HT
            have HFT := Lib.hid hfit
            clear HT hfit
            go_wp2_with (at_builtin; obtain ⟨i0, hI, hz0, hz1, hz2⟩ := info_parts infoInt; refine wpList_append_rows (by rfl) _ _ 22 (by rfl) 3 i0 _ 1 8 Tryd.underlying22 hI hz0 hz1 hz2 rfl (by decide) (H.out.below ((Below.refl _ _).alloc (Nat.le_refl _) _)) (by rfl) _ _ 1 1 [.int .i64 m'] (by rfl) (reads_blk (Blk.new _ _ _) rfl) (by simp [Value.oneCell']) (by unfold maxLen; omega) (by omega) ?_; intro v5 w5 M5 h5 _; obtain ⟨A5, c5, rfl⟩ := h5.form (.head _); rw [intVals_snocB] at h5; have H5 := Lib.hid h5; clear h5 hI hz0 hz1 hz2)
            go_roundg (gk - 1)
            case measure => omega
            case rel =>
              refine ⟨j + 1, M5, vs ++ [m'], by omega, by go_num, by rw [List.length_append, HVL.out]; rfl, fitV_snoc HVS.out (by rw [HVL.out, HSO.out]; exact HFT.out), H5.out⟩
        · obtain rfl : j = 3 := by omega
          obtain ⟨a, b, c', rfl⟩ := three_of HVL.out
          have hfk := HF.out
          obtain ⟨hk', hff⟩ := hfk
          have hok := Vm.ok_three ho9 (HVS.out 0 (by simp)) (HVS.out 1 (by simp)) (HVS.out 2 (by simp)) (s := shp ks) (by rw [shp_len, HNK.out]; omega) (by rw [Int.toNat_natCast, shp_get hk']; omega)
          simp only [List.getElem_cons_zero, List.getElem_cons_succ] at hok
          have HOK := Lib.hid hok
          obtain ⟨g20, rfl⟩ := H.out.rform (.head _) (by omega)
          clear hff hok HVS
          go_wp2_with fail
          apply wp_region_typed (C := fun w' => HR w [] M3 [(xb, 27, #[.int .i64 ver, .slice Ak nk cp, .slice B nl d, .slice C nr e])] [⟨3, 1, .slice (some ⟨g20, 0, none⟩) 3 c20, 3, intVals [a, b, c']⟩, ⟨58, 4, .slice A16 i c16, i, insVals ps⟩] [fun M W => SlAt M W Ak ks, fun M W => SlAt M W A l] w') (n := 241) (m := 13) (l1 := [_, _, _, _, _, _, _, _, _, _, _, _, _]) (l2 := [_, _])
          · rfl
          · rfl
          · kernel_rfl
          · rfl
          · kernel_rfl
          · exact H.out.drew
          · exact fun u u' h hb => (by first | exact h.below hb | exact h.trans (hb.mono h.size))
          iterate 12 ((apply wpT_exact; · (intro w' hC hf; unfold Gives; have q0 := hC.rcell (.head _) (by omega) (j := 0) (u := .int .i64 a) rfl; have q1 := hC.rcell (.head _) (by omega) (j := 1) (u := .int .i64 b) rfl; have q2 := hC.rcell (.head _) (by omega) (j := 2) (u := .int .i64 c') rfl; clear hf hC; go_wp2_with (fail); apply postT_val rfl (Below.refl _ _); simp only [valAt, Array.getD_eq_getD_getElem?, List.getElem?_toArray, List.getElem?_cons_succ, List.getElem?_cons_zero, Option.getD_some]; exact rfl)); (try simp only [Act.put, List.setIfInBounds_toArray, List.set_cons_zero, List.set_cons_succ]))
          apply wpT_typed (slBlk_kept 1 58 #[.int .i64 (o : Int), .int .i64 a, .int .i64 b, .int .i64 c'])
          · intro w' hC hf; unfold Gives; clear hf hC; go_wp2_with fail; apply postT_mk rfl (by go_grown); simp only [valAt, Array.getD_eq_getD_getElem?, List.getElem?_toArray, List.getElem?_cons_succ, List.getElem?_cons_zero, Option.getD_some]; exact ⟨_, rfl, Blk.new _ _ _⟩
          intro vsl; (try simp only [Act.put, List.setIfInBounds_toArray, List.set_cons_zero, List.set_cons_succ])
          apply wpT_done
          intro w4 hC hall
          obtain ⟨g, rfl, hB⟩ := hall.1
          obtain ⟨i0, hI, hz0, hz1, hz2⟩ := info_parts infoRIns
          refine wpList_append_rows (by rfl) _ _ 32 (by rfl) 58 i0 _ 4 32 Tryd.underlying32 hI hz0 hz1 hz2 rfl (by decide) hC.rswap (by rfl) _ _ 1 1 (insCells ((o : Int), a, b, c')) (by rfl) (reads_blk hB rfl) (insCells_one _) (by unfold maxLen; omega) (by omega) ?_
          intro v5 w5 M5 h5 _
          rw [← insVals_snoc] at h5
          have H5 := Lib.hid h5.rswap.drop
          clear h5 hB hC hall hI hz0 hz1 hz2 H
          go_wp2_with fail
          go_roundg (gk2 - 1)
          case measure => omega
          case rel =>
            refine ⟨i + 1, M5, ps ++ [((o : Int), a, b, c')], by omega, by go_num, by rw [List.length_append, HPL.out]; rfl, fun x hx => ?_, H5.out⟩
            rcases List.mem_append.1 hx with hx | hx
            · exact HPS.out x hx
            · simp only [List.mem_singleton] at hx; subst hx; exact HOK.out
    · obtain rfl : mn = i := by omega
      go_wp2_with fail
      go_ret
      exact progP_of H.out HPL.out.symm rfl ⟨by rw [HPL.out]; omega, fun x hx => by rw [HPL.out]; exact (HPS.out x hx).1, fun x hx => (HPS.out x hx).2⟩
end Go.Proofs.YtdpcdocaahjeoaaDoor
