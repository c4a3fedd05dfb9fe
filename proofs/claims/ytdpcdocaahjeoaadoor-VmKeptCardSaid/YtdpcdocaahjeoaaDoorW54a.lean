/- VmKept: the loop that makes the other world. -/
import Derived.Test.YtdpcdocaahjeoaaDoorVmL2
import Derived.Test.YtdpcdocaahjeoaaDoorVmL3
import Derived.WalkLawsBesides
import Derived.Laws.StructEq
import Derived.Deep.RegionHeld3
import Derived.Deep.CutBlock
namespace Go.Proofs.YtdpcdocaahjeoaaDoor
open Go Go.RowKit
theorem infoBool : (Tryd.prog.info? 4).map (fun i => (i.zero, i.size, i.bytes)) = some (some (.bool false), 1, 1) := by kernel_rfl
noncomputable def kptAt (t : Nat) : Code := ((Tryd.f5.body.bind (blkAt t)).getD .skip)
set_option maxRecDepth 1000000 in
set_option maxHeartbeats 100000000 in
theorem kept_rows {A12 Bw : Option Addr} {a c12 bw ow cbw gx gf nf cnt cw N : Nat} {nm : Bool} {bs : List Bool} {ot wl : Wor} {xs : List Value} {p : List Vm.Ins} {by_ : Int} {w5 wd : World} {M2 : List Nat} {u0 u1 u2 u4 u5 u6 u7 u8 u11 u16 u19 u20 u21 u22 u23 u24 u25 u26 u27 u28 u29 u30 u31 u32 u33 u34 u35 u36 u37 u38 u39 u40 u41 u42 u43 u44 u45 u46 u47 u48 u49 u50 u51 u52 u53 u54 u55 u56 u57 u58 u59 u60 u61 u62 u63 u64 u65 u66 u67 u68 u69 u70 u71 u72 u73 u74 u75 u76 u77 u78 u79 u80 u81 u82 u83 u84 u85 u86 u87 u88 u89 u90 u91 u92 u93 u94 u95 u96 u97 u98 u99 u100 u101 u102 u103 u104 u105 u106 u107 u108 u109 u110 u111 u112 u113 u114 u115 u116 u117 u118 u119 u120 u121 u122 u123 u124 u125 u126 u127 u128 u129 u130 u131 u132 u133 u134 u135 u136 u137 u138 u139 u140 u141 u142 u143 u144 u145 u146 u147 u148 u149 u150 u151 u152 u153 u154 u155 u156 u157 u158 u159 u160 u161 u162 u163 u164 u165 u166 u167 u168 u169 u170 u171 : Value} {J K' : Act → World → Prop} {Q' : Exit → Act → World → Prop} {cd_ : Code}
    (hcd_ : cd_ = kptAt 4) (hlt : a < wl.length) (hfb1 : 1 ≤ nf) (hfb2 : nf ≤ 10) (hc4 : cnt ≤ 4) (hN4 : N ≤ 4) (HBY : Hid (inI by_)) (HGW : Hid (w5.cell? ⟨bw, ow + a, none⟩ = some (.slice Bw cnt cbw))) (HSB : Hid (SlAt [] w5 Bw wl[a])) (HRW : Hid (∀ r ∈ wl[a], r.length = nf ∧ ∀ v ∈ r, -1000 ≤ v ∧ v ≤ 1000))
    (HWE : Hid (wl.getD a [] = wl[a])) (HCNT : Hid (wl[a].length = cnt)) (HN : Hid ((if nm = true then cnt else 0) = N)) (HBL : Hid (bs.length = nf))
    (HAS : Hid (∀ k (h : k < p.length), k < p.length → (p[k].1 = 4 ∨ p[k].1 = 5) → p[k].2.2.1 = (a : Int) → nm = true)) (HBS : Hid (∀ k (h : k < p.length), k < p.length → p[k].1 = 5 → p[k].2.2.1 = (a : Int) → bs.getD p[k].2.2.2.toNat false = true))
    (HH : Hid (HR w5 [] M2 [(gf, 4, (boolVals bs).toArray)] [⟨59, 1, .slice A12 a c12, a, xs⟩] [fun M W => Flat M W ot xs] wd))
    (hJ : ∀ (a' : Act) (w' : World), (∃ u17 u18 u19 u20 u33 u34 u35 u36 u37 u38 u39 u40 u41 u42 u43 u44 u45 u46 u47 u48 u49 u50 u51 u52 u53 u54 u55 u56 u57 u58 u59 u60 u61 u62 u63 u64 u65 u66 u67 u68 u69 u70 u71 u72 u73 u74 u75 u76 u77 u78 u79 u80 u81 u82 u83 u84 u85 u86 u87 u88 u89 u90 u91 u92 u93 u94 u95 u96 u97 u98 u99 u100 u101 u102 u103 u104 u105 u106 u107 u108 u109 u110 u111 u112 u113 u114 u115 u116 u117 u118 u119 u120 u121 u122 u123 u124 u125 u126 u127 u128 u129 u130 u131 u132, (∃ (i : Nat) (M : List Nat) (ls : List (List Int)) (xs2 : List Value) (A17 : Option Addr) (c17 : Nat), u17 = .slice A17 i c17 ∧ i ≤ 4 ∧ ls.length = i ∧ Vm.KndK p a (wl.getD a []) ls ∧ HR w5 [] M [(gf, 4, (boolVals bs).toArray)] [⟨22, 1, .slice A17 i c17, i, xs2⟩, ⟨59, 1, .slice A12 a c12, a, xs⟩] [fun M W => Flat M W ls xs2, fun M W => Flat M W ot xs] w') ∧ a' = ⟨(u0 :: u1 :: u2 :: .int .i64 by_ :: u4 :: u5 :: u6 :: u7 :: u8 :: .pointer (some ⟨gx, 0, none⟩) :: .slice (some ⟨bw, ow, none⟩) wl.length cw :: u11 :: .slice A12 a c12 :: .int .i64 a :: .bool nm :: .slice (some ⟨gf, 0, none⟩) nf nf :: u16 :: u17 :: u18 :: u19 :: u20 :: u21 :: u22 :: u23 :: u24 :: u25 :: u26 :: u27 :: u28 :: u29 :: u30 :: u31 :: u32 :: u33 :: u34 :: u35 :: u36 :: u37 :: u38 :: u39 :: u40 :: u41 :: u42 :: u43 :: u44 :: u45 :: u46 :: u47 :: u48 :: u49 :: u50 :: u51 :: u52 :: u53 :: u54 :: u55 :: u56 :: u57 :: u58 :: u59 :: u60 :: u61 :: u62 :: u63 :: u64 :: u65 :: u66 :: u67 :: u68 :: u69 :: u70 :: u71 :: u72 :: u73 :: u74 :: u75 :: u76 :: u77 :: u78 :: u79 :: u80 :: u81 :: u82 :: u83 :: u84 :: u85 :: u86 :: u87 :: u88 :: u89 :: u90 :: u91 :: u92 :: u93 :: u94 :: u95 :: u96 :: u97 :: u98 :: u99 :: u100 :: u101 :: u102 :: u103 :: u104 :: u105 :: u106 :: u107 :: u108 :: u109 :: u110 :: u111 :: u112 :: u113 :: u114 :: u115 :: u116 :: u117 :: u118 :: u119 :: u120 :: u121 :: u122 :: u123 :: u124 :: u125 :: u126 :: u127 :: u128 :: u129 :: u130 :: u131 :: u132 :: u133 :: u134 :: u135 :: u136 :: u137 :: u138 :: u139 :: u140 :: u141 :: u142 :: u143 :: u144 :: u145 :: u146 :: u147 :: u148 :: u149 :: u150 :: u151 :: u152 :: u153 :: u154 :: u155 :: u156 :: u157 :: u158 :: u159 :: u160 :: u161 :: u162 :: u163 :: u164 :: u165 :: u166 :: u167 :: u168 :: u169 :: u170 :: u171 :: []).toArray, []⟩) → J a' w')
    (hM : ∀ (a' : Act) (w' : World), Met J a' w' → K' a' w') :
    Code.wp Tryd.prog cd_ (Exit.then K' Q') ⟨(u0 :: u1 :: u2 :: .int .i64 by_ :: u4 :: u5 :: u6 :: u7 :: u8 :: .pointer (some ⟨gx, 0, none⟩) :: .slice (some ⟨bw, ow, none⟩) wl.length cw :: u11 :: .slice A12 a c12 :: .int .i64 a :: .bool nm :: .slice (some ⟨gf, 0, none⟩) nf nf :: u16 :: .slice none 0 0 :: .int .i64 0 :: u19 :: u20 :: u21 :: u22 :: u23 :: u24 :: u25 :: u26 :: u27 :: u28 :: u29 :: u30 :: u31 :: u32 :: u33 :: u34 :: u35 :: u36 :: u37 :: u38 :: u39 :: u40 :: u41 :: u42 :: u43 :: u44 :: u45 :: u46 :: u47 :: u48 :: u49 :: u50 :: u51 :: u52 :: u53 :: u54 :: u55 :: u56 :: u57 :: u58 :: u59 :: u60 :: u61 :: u62 :: u63 :: u64 :: u65 :: u66 :: u67 :: u68 :: u69 :: u70 :: u71 :: u72 :: u73 :: u74 :: u75 :: u76 :: u77 :: u78 :: u79 :: u80 :: u81 :: u82 :: u83 :: u84 :: u85 :: u86 :: u87 :: u88 :: u89 :: u90 :: u91 :: u92 :: u93 :: u94 :: u95 :: u96 :: u97 :: u98 :: u99 :: u100 :: u101 :: u102 :: u103 :: u104 :: u105 :: u106 :: u107 :: u108 :: u109 :: u110 :: u111 :: u112 :: u113 :: u114 :: u115 :: u116 :: u117 :: u118 :: u119 :: u120 :: u121 :: u122 :: u123 :: u124 :: u125 :: u126 :: u127 :: u128 :: u129 :: u130 :: u131 :: u132 :: u133 :: u134 :: u135 :: u136 :: u137 :: u138 :: u139 :: u140 :: u141 :: u142 :: u143 :: u144 :: u145 :: u146 :: u147 :: u148 :: u149 :: u150 :: u151 :: u152 :: u153 :: u154 :: u155 :: u156 :: u157 :: u158 :: u159 :: u160 :: u161 :: u162 :: u163 :: u164 :: u165 :: u166 :: u167 :: u168 :: u169 :: u170 :: u171 :: []).toArray, []⟩ wd := by
  subst hcd_
  conv => arg 2; whnf
  have k1 : (a : Int) < (wl.length : Int) := by omega
  have k0 : (0 : Int) ≤ (a : Int) := by omega
  go_wp2_with fail
  go_loopg [17, 18] N (fun r v17 v18 wr => ∃ (i : Nat) (M : List Nat) (ls : List (List Int)) (xs2 : List Value), i + r = N ∧ v18 = .int .i64 i ∧ ls.length = i ∧ (∀ k, k < i → Vm.RowK p a ((wl.getD a []).getD k []) (ls.getD k [])) ∧ HR w5 [] M [(gf, 4, (boolVals bs).toArray)] [⟨22, 1, v17, i, xs2⟩, ⟨59, 1, .slice A12 a c12, a, xs⟩] [fun M W => Flat M W ls xs2, fun M W => Flat M W ot xs] wr)
  case atStart => exact ⟨0, _, [], [], by omega, rfl, rfl, (fun k h => by omega), (HH.out.push 22 1).add (keeps_flat [] []) rfl⟩
  case round =>
    obtain ⟨i, M3, ls, xs2, hi3, rfl, hll, hlk, HT⟩ := hrel
    clear HH
    obtain ⟨wd, rfl⟩ : ∃ wd : World, wd = wr := ⟨_, rfl⟩
    obtain ⟨gk3, rfl⟩ : ∃ g, g = gk := ⟨_, rfl⟩
    obtain ⟨A17, c17, rfl⟩ := HT.form (.head _)
    have HH := Lib.hid HT
    have HLL := Lib.hid hll
    have HLK := Lib.hid hlk
    clear HT hll hlk
    have q5 := (HH.out.h.bl.cell (World.block_lt_of_cell? _ _ HGW.out)).trans HGW.out
    by_cases hin : i < N
    · obtain rfl : nm = true := by
        cases nm with
        | true => rfl
        | false => rw [← HN.out] at hin; simp at hin
      have hnc : N = cnt := by rw [← HN.out]; rfl
      have k2 : (i : Int) < (cnt : Int) := by omega
      have k3 : (0 : Int) ≤ (i : Int) := by omega
      have hiw : i < wl[a].length := by rw [HCNT.out]; omega
      obtain ⟨b8, o8, B8, c8, rfl, -, g8, s8, -, -⟩ := lst_at (HSB.out.keep (Chg.of_below HH.out.h.bl)) i hiw
      have hrl := (HRW.out _ (List.getElem_mem hiw)).1
      obtain ⟨row, hrow⟩ : ∃ z, wl[a][i] = z := ⟨_, rfl⟩
      rw [hrow] at g8 s8 hrl
      obtain ⟨xr, hrd, hfl⟩ := s8.reads
      obtain rfl := flat_intVals hfl
      rw [hrl] at g8 hrd
      have HAR := Lib.hid (show AllI row from fun z hz => by
        obtain ⟨k, hk, rfl⟩ := List.getElem_of_mem hz
        obtain ⟨_, _, _, _, _, h9⟩ := int_at s8 k hk
        exact h9)
      have HROW := Lib.hid (show (wl.getD a []).getD i [] = row by rw [HWE.out, getD_in hiw, hrow])
      have HRL := Lib.hid hrl
      obtain ⟨M4, HT, _⟩ := HH.out.take (below_alloc wd (.cells #[] 3)) (show (wd.alloc (.cells #[] 3)).ownsRow wd.heap.size 3 1 (.slice (some ⟨wd.heap.size, 0, none⟩) 0 0) 0 [] from World.ownsRow_lit wd #[] 0 (Nat.le_refl _) (by decide) (by simp))
      have H4 := Lib.hid HT
      have HRD := Lib.hid (hrd.below (below_alloc wd (.cells #[] 3)))
      have q5a := ((below_alloc wd (.cells #[] 3)).cell (World.block_lt_of_cell? _ _ q5)).trans q5
      have g8a := ((below_alloc wd (.cells #[] 3)).cell (World.block_lt_of_cell? _ _ g8)).trans g8
      clear HT hrd hfl s8 hrow hrl hiw hnc
      go_upto_region 22 with (at_builtin; obtain ⟨i0, hI, hz0, hz1, hz2⟩ := info_parts infoInt; refine wpList_append_rows (by rfl) _ _ 22 (by rfl) 3 i0 _ 1 8 Tryd.underlying22 hI hz0 hz1 hz2 rfl (by decide) (H4.out) (by rfl) _ _ nf _ (intVals row) (by rfl) HRD.out (by first | exact intVals_one _ | simp [Value.oneCell']) (by unfold maxLen; omega) (by omega) ?_; intro v5 w9 M9 h5 _; rw [List.nil_append, Nat.zero_add] at h5; obtain ⟨A19, c19, rfl⟩ := h5.form (.head _); have H5 := Lib.hid h5; clear h5 hI hz0 hz1 hz2)
      clear H4 HRD HH q5 g8 q5a g8a
      obtain ⟨g19, rfl⟩ := H5.out.rform (.head _) (by omega)
      go_wp2_with fail
      go_loopg [20] nf (fun r v20 wr => ∃ (f : Nat) (M : List Nat) (rl : List Int), f + r = nf ∧ v20 = .int .i64 f ∧ rl.length = nf ∧ AllI rl ∧ (∀ j, (bs.getD j false = true ∨ f ≤ j) → rl.getD j 0 = row.getD j 0) ∧ HR w5 [] M [(gf, 4, (boolVals bs).toArray)] [⟨3, 1, .slice (some ⟨g19, 0, none⟩) nf c19, nf, intVals rl⟩, ⟨22, 1, .slice A17 i c17, i, xs2⟩, ⟨59, 1, .slice A12 a c12, a, xs⟩] [fun M W => Flat M W ls xs2, fun M W => Flat M W ot xs] wr)
      case atStart => exact ⟨0, _, row, by omega, rfl, HRL.out, HAR.out, fun j _ => rfl, H5.out⟩
      case round =>
        obtain ⟨f, M5, rl, hf4, rfl, hrl, har, hag, HT⟩ := hrel
        clear H5
        obtain ⟨we, rfl⟩ : ∃ we : World, we = wr := ⟨_, rfl⟩
        have HJ := Lib.hid HT
        have HRLN := Lib.hid hrl
        have HARL := Lib.hid har
        have HAG := Lib.hid hag
        clear HT hrl har hag
        by_cases hfn : f < nf
        · have k5 : (f : Int) < (nf : Int) := by omega
          have k6 : (0 : Int) ≤ (f : Int) := by omega
          have q := HJ.out.box (.head _)
          have q0 := q.cell f
          rw [boolVals_at (by rw [HBL.out]; exact hfn)] at q0
          obtain ⟨b, hb⟩ : ∃ z, bs.getD f false = z := ⟨_, rfl⟩
          rw [hb] at q0
          have HBB := Lib.hid hb
          have hfr : f < rl.length := by rw [HRLN.out]; exact hfn
          have r0 := HJ.out.rcell (.head _) (by omega) (intVals_atB hfr)
          have f0 := HJ.out.rfroz (.head _) (by omega) f
          have hs := HJ.out.setRow (.int .i64 by_) (k := f) (by omega)
          rw [intVals_setB] at hs
          have H6 := Lib.hid hs
          obtain ⟨z0, hz0⟩ : ∃ z, rl[f] = z := ⟨_, rfl⟩
          rw [hz0] at r0
          clear q hb hs hfr hz0
          cases b
          · go_wp2_with fail
            go_roundg (gk - 1)
            case measure => omega
            case rel =>
              refine ⟨f + 1, M5, rl.set f by_, by omega, by go_num, by rw [List.length_set]; exact HRLN.out, fun z hz => ?_, fun j hj => ?_, H6.out⟩
              · rcases List.mem_or_eq_of_mem_set hz with hz | rfl
                · exact HARL.out z hz
                · exact HBY.out
              · by_cases hjf : f = j
                · subst hjf
                  rw [HBB.out] at hj
                  rcases hj with hj | hj
                  · cases hj
                  · omega
                · rw [getD_set_other _ _ _ _ _ hjf]
                  exact HAG.out j (hj.imp id (fun h => by omega))
          · go_wp2_with fail
            go_roundg (gk - 1)
            case measure => omega
            case rel =>
              refine ⟨f + 1, M5, rl, by omega, by go_num, HRLN.out, HARL.out, fun j hj => ?_, HJ.out⟩
              by_cases hjf : f = j
              · subst hjf; exact HAG.out f (.inl HBB.out)
              · exact HAG.out j (hj.imp id (fun h => by omega))
        · obtain rfl : f = nf := by omega
          obtain ⟨Ar, cr, M6, er, er1, er2, HG, _⟩ := HJ.out.freeze (α := Int) (l := rl) rfl HRLN.out.symm (flat_intsB HARL.out) (fun g hg => nomatch hg)
          rw [HRLN.out] at er er1
          obtain ⟨rfl, rfl⟩ : some ⟨g19, 0, none⟩ = Ar ∧ c19 = cr := by injection er with h1 _ h2; exact ⟨h1, h2⟩
          have HS := Lib.hid HG
          have HE := Lib.hid (show f ≤ c19 ∧ c19 ≤ 9223372036854775807 from ⟨er1, er2⟩)
          clear HG er er1 er2 HJ hfn
          go_wp2_with (at_builtin; obtain ⟨i0, hI, hz0, hz1, hz2⟩ := info_parts infoInts; refine wpList_append_rows (by rfl) _ _ 59 (by rfl) 22 i0 _ 1 24 Tryd.underlying59 hI hz0 hz1 hz2 rfl (by decide) (HS.out.below ((Below.refl _ _).alloc (Nat.le_refl _) _)) (by rfl) _ _ 1 _ [.slice (some ⟨g19, 0, none⟩) f c19] (by rfl) (reads_blk (Blk.new _ _ _) rfl) (by first | exact intVals_one _ | simp [Value.oneCell']) (by unfold maxLen; omega) (by omega) ?_; intro v5 w9 M9 h5 _; obtain ⟨A7, c7, rfl⟩ := h5.form (.head _); have H7 := Lib.hid h5; clear h5 hI hz0 hz1 hz2)
          have T5 := Lib.hid ((H7.out.fswap.flat (news := [rl]) (Flat.single ⟨some ⟨g19, 0, none⟩, c19, by rw [HRLN.out], by rw [HRLN.out]; exact HE.out.1, HE.out.2, H7.out.fact (.head _)⟩)).fswap.tail)
          clear H7 HS
          go_roundg (gk3 - 1)
          case measure => omega
          case rel =>
            refine ⟨i + 1, _, ls ++ [rl], xs2 ++ [.slice (some ⟨g19, 0, none⟩) f c19], by omega, by go_num, by rw [List.length_append, HLL.out]; rfl, fun k hk => ?_, T5.out⟩
            by_cases hki : k < i
            · rw [List.getD_eq_getElem?_getD (l := ls ++ [rl]), List.getElem?_append_left (by rw [HLL.out]; exact hki), ← List.getD_eq_getElem?_getD]
              exact HLK.out k hki
            · obtain rfl : k = i := by omega
              rw [HROW.out, List.getD_eq_getElem?_getD, List.getElem?_append_right (by rw [HLL.out]; exact Nat.le_refl _), HLL.out, Nat.sub_self]
              intro f' hsk
              obtain ⟨I, hI, j1, j2, j3⟩ := hsk
              obtain ⟨k', hk', rfl⟩ := List.getElem_of_mem hI
              have := HBS.out k' hk' hk' j1 j2
              rw [j3, Int.toNat_natCast] at this
              exact HAG.out f' (.inl this)
    · have key : (nm = true ∧ ¬ (i : Int) < (cnt : Int) ∧ i = cnt) ∨ (nm = false ∧ (i : Int) < (cnt : Int)) ∨ (nm = false ∧ ¬ (i : Int) < (cnt : Int)) := by
        have := HN.out
        cases nm with
        | true => rw [if_pos rfl] at this; exact .inl ⟨rfl, by omega, by omega⟩
        | false =>
          by_cases hh : (i : Int) < (cnt : Int)
          · exact .inr (.inl ⟨rfl, hh⟩)
          · exact .inr (.inr ⟨rfl, hh⟩)
      have HKK : Hid (Vm.KndK p a (wl.getD a []) ls) := by
        unfold Hid
        intro hnk
        obtain ⟨I, hI, j1, j2⟩ := hnk
        obtain ⟨k', hk', rfl⟩ := List.getElem_of_mem hI
        have hnt := HAS.out k' hk' hk' j1 j2
        have hic : i = cnt := by
          rcases key with h | h | h
          · exact h.2.2
          · rw [h.1] at hnt; cases hnt
          · rw [h.1] at hnt; cases hnt
        refine ⟨by rw [HLL.out, HWE.out, HCNT.out]; exact hic, fun k => ?_⟩
        by_cases hk : k < i
        · exact HLK.out k hk
        · rw [List.getD_eq_getElem?_getD (l := ls), List.getElem?_eq_none (by rw [HLL.out]; omega), List.getD_eq_getElem?_getD (l := wl.getD a []), List.getElem?_eq_none (by rw [HWE.out, HCNT.out]; omega)]
          intro _ _
          rfl
      rcases key with ⟨rfl, k4, -⟩ | ⟨rfl, k4⟩ | ⟨rfl, k4⟩
      all_goals
        go_wp2_with fail
        go_meet
        case rel => exact ⟨i, _, ls, xs2, A17, c17, rfl, by omega, HLL.out, HKK.out, HH.out⟩
set_option maxRecDepth 1000000 in
set_option maxHeartbeats 100000000 in
theorem kept_loop {x : Sch} {A1 A2 A3 Aw Aq : Option Addr} {c1 c2 c3 gx cw cq : Nat} {wl : Wor} {p : List Vm.Ins} {by_ : Int} {w5 : World} {u0 u1 u2 u4 u5 u6 u7 u14 u15 u16 u17 u18 u19 u20 u21 u22 u23 u24 u25 u26 u27 u28 u29 u30 u31 u32 u33 u34 u35 u36 u37 u38 u39 u40 u41 u42 u43 u44 u45 u46 u47 u48 u49 u50 u51 u52 u53 u54 u55 u56 u57 u58 u59 u60 u61 u62 u63 u64 u65 u66 u67 u68 u69 u70 u71 u72 u73 u74 u75 u76 u77 u78 u79 u80 u81 u82 u83 u84 u85 u86 u87 u88 u89 u90 u91 u92 u93 u94 u95 u96 u97 u98 u99 u100 u101 u102 u103 u104 u105 u106 u107 u108 u109 u110 u111 u112 u113 u114 u115 u116 u117 u118 u119 u120 u121 u122 u123 u124 u125 u126 u127 u128 u129 u130 u131 u132 u133 u134 u135 u136 u137 u138 u139 u140 u141 u142 u143 u144 u145 u146 u147 u148 u149 u150 u151 u152 u153 u154 u155 u156 u157 u158 u159 u160 u161 u162 u163 u164 u165 u166 u167 u168 u169 u170 u171 : Value} {J K' : Act → World → Prop} {Q' : Exit → Act → World → Prop} {cd_ : Code}
    (hcd_ : cd_ = kptAt 0) (HBY : Hid (inI by_)) (HSX : Hid (Sg.Schema x)) (HWL : Hid (wl.length = (Sc.kinds x).length)) (HWB : Hid (WorB (shp (Sc.kinds x)) wl)) (HFP : Hid (Vm.Fine (shp (Sc.kinds x)) 20 p)) (HSQ : Hid (SlAt [] w5 Aq p)) (HSW : Hid (SlAt [] w5 Aw wl))
    (HBX : Hid (Blk w5 gx 27 #[.int .i64 x.1, .slice A1 (Sc.kinds x).length c1, .slice A2 x.2.2.1.length c2, .slice A3 x.2.2.2.length c3])) (HMX : Hid (Mem.rep [] w5 x [.int .i64 x.1, .slice A1 (Sc.kinds x).length c1, .slice A2 x.2.2.1.length c2, .slice A3 x.2.2.2.length c3]))
    (hJ : ∀ (a' : Act) (w' : World), (∃ u12 u13 u14 u15 u16 u17 u18 u19 u20 u21 u22 u23 u24 u25 u26 u27 u28 u29 u30 u31 u32 u33 u34 u35 u36 u37 u38 u39 u40 u41 u42 u43 u44 u45 u46 u47 u48 u49 u50 u51 u52 u53 u54 u55 u56 u57 u58 u59 u60 u61 u62 u63 u64 u65 u66 u67 u68 u69 u70 u71 u72 u73 u74 u75 u76 u77 u78 u79 u80 u81 u82 u83 u84 u85 u86 u87 u88 u89 u90 u91 u92 u93 u94 u95 u96 u97 u98 u99 u100 u101 u102 u103 u104 u105 u106 u107 u108 u109 u110 u111 u112 u113 u114 u115 u116 u117 u118 u119 u120 u121 u122 u123 u124 u125 u126 u127 u128 u129 u130 u131 u132 u133 u134 u135 u136 u137 u138 u139 u140 u141 u142 u143 u144 u145 u146 u147 u148 u149 u150 u151 u152 u153 u154 u155 u156 u157 u158 u159 u160 u161 u162 u163 u164 u165 u166 u167 u168 u169 u170 u171, (∃ (ot : Wor) (A12 : Option Addr) (c12 : Nat), u12 = .slice A12 wl.length c12 ∧ ot.length = wl.length ∧ (∀ j, j < wl.length → Vm.KndK p j (wl.getD j []) (ot.getD j [])) ∧ SlAt [] w' A12 ot ∧ Below w5.heap.size w5 w') ∧ a' = ⟨(u0 :: u1 :: u2 :: .int .i64 by_ :: u4 :: u5 :: u6 :: u7 :: .bool false :: .pointer (some ⟨gx, 0, none⟩) :: .slice Aw wl.length cw :: .slice Aq p.length cq :: u12 :: u13 :: u14 :: u15 :: u16 :: u17 :: u18 :: u19 :: u20 :: u21 :: u22 :: u23 :: u24 :: u25 :: u26 :: u27 :: u28 :: u29 :: u30 :: u31 :: u32 :: u33 :: u34 :: u35 :: u36 :: u37 :: u38 :: u39 :: u40 :: u41 :: u42 :: u43 :: u44 :: u45 :: u46 :: u47 :: u48 :: u49 :: u50 :: u51 :: u52 :: u53 :: u54 :: u55 :: u56 :: u57 :: u58 :: u59 :: u60 :: u61 :: u62 :: u63 :: u64 :: u65 :: u66 :: u67 :: u68 :: u69 :: u70 :: u71 :: u72 :: u73 :: u74 :: u75 :: u76 :: u77 :: u78 :: u79 :: u80 :: u81 :: u82 :: u83 :: u84 :: u85 :: u86 :: u87 :: u88 :: u89 :: u90 :: u91 :: u92 :: u93 :: u94 :: u95 :: u96 :: u97 :: u98 :: u99 :: u100 :: u101 :: u102 :: u103 :: u104 :: u105 :: u106 :: u107 :: u108 :: u109 :: u110 :: u111 :: u112 :: u113 :: u114 :: u115 :: u116 :: u117 :: u118 :: u119 :: u120 :: u121 :: u122 :: u123 :: u124 :: u125 :: u126 :: u127 :: u128 :: u129 :: u130 :: u131 :: u132 :: u133 :: u134 :: u135 :: u136 :: u137 :: u138 :: u139 :: u140 :: u141 :: u142 :: u143 :: u144 :: u145 :: u146 :: u147 :: u148 :: u149 :: u150 :: u151 :: u152 :: u153 :: u154 :: u155 :: u156 :: u157 :: u158 :: u159 :: u160 :: u161 :: u162 :: u163 :: u164 :: u165 :: u166 :: u167 :: u168 :: u169 :: u170 :: u171 :: []).toArray, []⟩) → J a' w')
    (hM : ∀ (a' : Act) (w' : World), Met J a' w' → K' a' w') :
    Code.wp Tryd.prog cd_ (Exit.then K' Q') ⟨(u0 :: u1 :: u2 :: .int .i64 by_ :: u4 :: u5 :: u6 :: u7 :: .bool false :: .pointer (some ⟨gx, 0, none⟩) :: .slice Aw wl.length cw :: .slice Aq p.length cq :: .slice none 0 0 :: .int .i64 0 :: u14 :: u15 :: u16 :: u17 :: u18 :: u19 :: u20 :: u21 :: u22 :: u23 :: u24 :: u25 :: u26 :: u27 :: u28 :: u29 :: u30 :: u31 :: u32 :: u33 :: u34 :: u35 :: u36 :: u37 :: u38 :: u39 :: u40 :: u41 :: u42 :: u43 :: u44 :: u45 :: u46 :: u47 :: u48 :: u49 :: u50 :: u51 :: u52 :: u53 :: u54 :: u55 :: u56 :: u57 :: u58 :: u59 :: u60 :: u61 :: u62 :: u63 :: u64 :: u65 :: u66 :: u67 :: u68 :: u69 :: u70 :: u71 :: u72 :: u73 :: u74 :: u75 :: u76 :: u77 :: u78 :: u79 :: u80 :: u81 :: u82 :: u83 :: u84 :: u85 :: u86 :: u87 :: u88 :: u89 :: u90 :: u91 :: u92 :: u93 :: u94 :: u95 :: u96 :: u97 :: u98 :: u99 :: u100 :: u101 :: u102 :: u103 :: u104 :: u105 :: u106 :: u107 :: u108 :: u109 :: u110 :: u111 :: u112 :: u113 :: u114 :: u115 :: u116 :: u117 :: u118 :: u119 :: u120 :: u121 :: u122 :: u123 :: u124 :: u125 :: u126 :: u127 :: u128 :: u129 :: u130 :: u131 :: u132 :: u133 :: u134 :: u135 :: u136 :: u137 :: u138 :: u139 :: u140 :: u141 :: u142 :: u143 :: u144 :: u145 :: u146 :: u147 :: u148 :: u149 :: u150 :: u151 :: u152 :: u153 :: u154 :: u155 :: u156 :: u157 :: u158 :: u159 :: u160 :: u161 :: u162 :: u163 :: u164 :: u165 :: u166 :: u167 :: u168 :: u169 :: u170 :: u171 :: []).toArray, []⟩ w5 := by
  subst hcd_
  conv => arg 2; whnf
  have HC := Lib.hid (fun W (hb : Below w5.heap.size w5 W) => cells4 (HBX.out.below hb HBX.out.lt))
  obtain ⟨A1', c1', A2', c2', A3', c3', hus, sk, _⟩ := rep_sch HMX.out
  have HSK : Hid (SlAt [] w5 A1 (Sc.kinds x)) := by
    unfold Hid
    injection hus with _ hus
    injection hus with h1 _
    injection h1 with h1
    subst h1
    exact sk
  clear hus sk
  have hnk := HSX.out.bd'.2.1
  have hnw : wl.length ≤ 3 := by have := HWL.out; omega
  have hnp : p.length ≤ 20 := HFP.out.len
  have HSH := Lib.hid (shp_len (Sc.kinds x))
  go_wp2_with fail
  go_loopg [12, 13] wl.length (fun r v12 v13 wr => ∃ (a : Nat) (M : List Nat) (ot : Wor) (xs : List Value), a + r = wl.length ∧ v13 = .int .i64 a ∧ ot.length = a ∧ (∀ j, j < a → Vm.KndK p j (wl.getD j []) (ot.getD j [])) ∧ HR w5 [] M [] [⟨59, 1, v12, a, xs⟩] [fun M W => Flat M W ot xs] wr)
  case atStart => exact ⟨0, _, [], [], by omega, rfl, rfl, (fun j h => by omega), ((HR.start (held0 w5 [] (fun _ h => by cases h))).push 59 1).add (keeps_flat [] []) rfl⟩
  case round =>
    obtain ⟨a, M1, ot, xs, ha, rfl, hol, hok, HT⟩ := hrel
    obtain ⟨wa, rfl⟩ : ∃ wa : World, wa = wr := ⟨_, rfl⟩
    obtain ⟨gk2, rfl⟩ : ∃ g, g = gk := ⟨_, rfl⟩
    obtain ⟨A12, c12, rfl⟩ := HT.form (.head _)
    have HO := Lib.hid HT
    have HOL := Lib.hid hol
    have HOK := Lib.hid hok
    clear HT hol hok
    by_cases hlt : a < wl.length
    · have k1 : (a : Int) < (wl.length : Int) := by omega
      have k0 : (0 : Int) ≤ (a : Int) := by omega
      have hka : a < (Sc.kinds x).length := by have := HWL.out; omega
      obtain ⟨b9, o9, B9, d9, rfl, _, c0, d1, d2, d3, hs9, _⟩ := knd_at (HSK.out.keep (Chg.of_below HO.out.h.bl)) a hka
      have hfb := HSX.out.bd'.2.2 _ (List.getElem_mem hka)
      obtain ⟨nf, hnf⟩ : ∃ z, (Sc.flds (Sc.kinds x)[a]).length = z := ⟨_, rfl⟩
      rw [hnf] at d3 hfb
      have hsh : (shp (Sc.kinds x)).getD a 0 = nf := by rw [shp_get hka, hnf]
      have HSF := Lib.hid hsh
      have hsh' := hsh
      have HKL := Lib.hid (show (a : Int) < ((Sc.kinds x).length : Int) by omega)
      have hkl := HKL.out
      obtain ⟨hfb1, hfb2⟩ := hfb
      obtain ⟨x0, x1, x2, x3⟩ := HC.out wa HO.out.h.bl
      have hmk := run_make_row' (P := Tryd.prog) 53 4 (.bool false) 1 Tryd.underlying53 infoBool rfl .i64 .i64 nf (by omega) (by omega) wa
      have HSG := Lib.hid hsh'
      clear hnf hsh hsh' c0 d1 d2 hs9
      go_upto_region 10 with fail
      rw [made_bools]
      have H1 := Lib.hid (HO.out.new (boolVals (List.replicate nf false)).toArray 4 rfl)
      generalize hW : wa.alloc _ = Wb at H1 ⊢
      generalize wa.heap.size = gf at H1 ⊢
      clear hW HO x0 x1 x2 x3 d3 hmk
      go_wp2_with fail
      go_loopg [14, 16] p.length (fun r v14 v16 wr => ∃ (i : Nat) (nm : Bool) (bs : List Bool) (M : List Nat), i + r = p.length ∧ v16 = .int .i64 i ∧ v14 = .bool nm ∧ bs.length = nf ∧ (∀ k (h : k < p.length), k < i → (p[k].1 = 4 ∨ p[k].1 = 5) → p[k].2.2.1 = (a : Int) → nm = true) ∧ (∀ k (h : k < p.length), k < i → p[k].1 = 5 → p[k].2.2.1 = (a : Int) → bs.getD p[k].2.2.2.toNat false = true) ∧ HR w5 [] M [(gf, 4, (boolVals bs).toArray)] [⟨59, 1, .slice A12 a c12, a, xs⟩] [fun M W => Flat M W ot xs] wr)
      case atStart => exact ⟨0, false, List.replicate nf false, _, by omega, rfl, rfl, List.length_replicate, (fun k h hk => by omega), (fun k h hk => by omega), H1.out⟩
      case round =>
        obtain ⟨i, nm, bs, M2, hi, rfl, rfl, hbl, hA, hB, HT⟩ := hrel
        clear H1
        obtain ⟨wb, rfl⟩ : ∃ wb : World, wb = wr := ⟨_, rfl⟩
        have HAS := Lib.hid hA
        have HBS := Lib.hid hB
        have HH := Lib.hid HT
        have HBL := Lib.hid hbl
        clear hA hB HT hbl
        by_cases hip : i < p.length
        · have k2 : (i : Int) < (p.length : Int) := by omega
          have k3 : (0 : Int) ≤ (i : Int) := by omega
          obtain ⟨bq, oq, rfl, _, e0, e1, e2, e3, i0, i1, i2, i3⟩ := Vm.ins_at (HSQ.out.keep (Chg.of_below HH.out.h.bl)) i hip
          have hko := HFP.out.ok _ (List.getElem_mem hip)
          have hkn := HFP.out.nm _ (List.getElem_mem hip)
          obtain ⟨I, hI⟩ : ∃ z, p[i] = z := ⟨_, rfl⟩
          rw [hI] at e0 e1 e2 e3 hko hkn
          have HI := Lib.hid hI
          obtain ⟨op, Ai, Bi, Ci⟩ := I
          dsimp only at e0 e1 e2 e3
          clear hI i0 i1 i2 i3
          by_cases h4 : op = 4
          · subst h4
            by_cases hBa : Bi = (a : Int)
            · subst hBa
              clear hko hkn
              go_wp2_with fail
              go_roundg (gk - 1)
              case measure => omega
              case rel =>
                refine ⟨i + 1, true, bs, M2, by omega, by go_num, rfl, HBL.out, fun _ _ _ _ _ => rfl, fun k h hk h5 h6 => ?_, HH.out⟩
                rcases (show k < i ∨ k = i by omega) with h' | rfl
                · exact HBS.out k h h' h5 h6
                · rw [HI.out] at h5; simp at h5
            · have t1 : (Bi == (a : Int)) = false := beq_eq_false_iff_ne.2 hBa
              have HBA := Lib.hid hBa
              clear hko hkn hBa
              go_wp2_with fail
              go_roundg (gk - 1)
              case measure => omega
              case rel =>
                refine ⟨i + 1, nm, bs, M2, by omega, by go_num, rfl, HBL.out, fun k h hk h5 h6 => ?_, fun k h hk h5 h6 => ?_, HH.out⟩
                · rcases (show k < i ∨ k = i by omega) with h' | rfl
                  · exact HAS.out k h h' h5 h6
                  · rw [HI.out] at h6; exact absurd h6 HBA.out
                · rcases (show k < i ∨ k = i by omega) with h' | rfl
                  · exact HBS.out k h h' h5 h6
                  · rw [HI.out] at h5; simp at h5
          · by_cases h5 : op = 5
            · subst h5
              clear h4
              by_cases hBa : Bi = (a : Int)
              · subst hBa
                obtain ⟨hc0, _⟩ := Vm.ok_field hko rfl
                have hc1 := Vm.nm_field hkn rfl
                dsimp only at hc0 hc1
                rw [Int.toNat_natCast, HSF.out] at hc1
                obtain ⟨C, rfl⟩ : ∃ z : Nat, Ci = z := ⟨Ci.toNat, by omega⟩
                have hcn : C < bs.length := by rw [HBL.out]; omega
                have q := HH.out.box (.head _)
                have q0 := q.cell C
                rw [boolVals_at hcn] at q0
                have f0 := q.frozen C
                have hs := HH.out.set0 C (.bool true)
                rw [boolVals_set] at hs
                have H2 := Lib.hid hs
                have k5 : (C : Int) < (nf : Int) := hc1
                have HCN := Lib.hid hcn
                clear q hs hko hkn hc0 hc1 hcn
                go_wp2_with fail
                go_roundg (gk - 1)
                case measure => omega
                case rel =>
                  refine ⟨i + 1, true, bs.set C true, M2, by omega, by go_num, rfl, by rw [List.length_set]; exact HBL.out, fun _ _ _ _ _ => rfl, fun k h hk h5 h6 => ?_, H2.out⟩
                  rcases (show k < i ∨ k = i by omega) with h' | rfl
                  · by_cases hc : C = p[k].2.2.2.toNat
                    · rw [← hc]; exact getD_set_same _ _ _ _ HCN.out
                    · rw [getD_set_other _ _ _ _ _ hc]; exact HBS.out k h h' h5 h6
                  · rw [HI.out]; exact getD_set_same _ _ _ _ HCN.out
              · have t1 : (Bi == (a : Int)) = false := beq_eq_false_iff_ne.2 hBa
                have HBA := Lib.hid hBa
                clear hko hkn hBa
                go_wp2_with fail
                go_roundg (gk - 1)
                case measure => omega
                case rel =>
                  refine ⟨i + 1, nm, bs, M2, by omega, by go_num, rfl, HBL.out, fun k h hk h5 h6 => ?_, fun k h hk h5 h6 => ?_, HH.out⟩
                  · rcases (show k < i ∨ k = i by omega) with h' | rfl
                    · exact HAS.out k h h' h5 h6
                    · rw [HI.out] at h6; exact absurd h6 HBA.out
                  · rcases (show k < i ∨ k = i by omega) with h' | rfl
                    · exact HBS.out k h h' h5 h6
                    · rw [HI.out] at h6; exact absurd h6 HBA.out
            · have t4 : (op == 4) = false := beq_eq_false_iff_ne.2 h4
              have t5 : (op == 5) = false := beq_eq_false_iff_ne.2 h5
              have H45 := Lib.hid (show ¬ op = 4 ∧ ¬ op = 5 from ⟨h4, h5⟩)
              clear hko hkn h4 h5
              go_wp2_with fail
              go_roundg (gk - 1)
              case measure => omega
              case rel =>
                refine ⟨i + 1, nm, bs, M2, by omega, by go_num, rfl, HBL.out, fun k h hk h5 h6 => ?_, fun k h hk h5 h6 => ?_, HH.out⟩
                · rcases (show k < i ∨ k = i by omega) with h' | rfl
                  · exact HAS.out k h h' h5 h6
                  · rw [HI.out] at h5; rcases h5 with h5 | h5
                    · exact absurd h5 H45.out.1
                    · exact absurd h5 H45.out.2
                · rcases (show k < i ∨ k = i by omega) with h' | rfl
                  · exact HBS.out k h h' h5 h6
                  · rw [HI.out] at h5; exact absurd h5 H45.out.2
        · obtain rfl : i = p.length := by omega
          clear hip hi
          obtain ⟨bw, ow, Bw, cbw, rfl, -, gwc, sbw, -, -⟩ := lst_at HSW.out a hlt
          have HGW := Lib.hid gwc
          have HSB := Lib.hid sbw
          have hwb := HWB.out a hlt
          rw [HSG.out] at hwb
          obtain ⟨cnt, hcnt⟩ : ∃ z, wl[a].length = z := ⟨_, rfl⟩
          rw [hcnt] at HGW hwb
          have HRW := Lib.hid hwb.2
          have hc4 : cnt ≤ 4 := hwb.1
          have HWE := Lib.hid (show wl.getD a [] = wl[a] from getD_in hlt)
          have HCNT := Lib.hid hcnt
          obtain ⟨N, hN⟩ : ∃ z, (if nm = true then cnt else 0) = z := ⟨_, rfl⟩
          have HN := Lib.hid hN
          have hN4 : N ≤ 4 := by rw [← hN]; split <;> omega
          clear gwc sbw hwb hcnt hN
          go_upto_block 4 with fail
          go_cut [17, 18, 19, 20] from 33 to 132 (fun u17 _ _ _ w' => ∃ (i : Nat) (M : List Nat) (ls : List (List Int)) (xs2 : List Value) (A17 : Option Addr) (c17 : Nat), u17 = .slice A17 i c17 ∧ i ≤ 4 ∧ ls.length = i ∧ Vm.KndK p a (wl.getD a []) ls ∧ HR w5 [] M [(gf, 4, (boolVals bs).toArray)] [⟨22, 1, .slice A17 i c17, i, xs2⟩, ⟨59, 1, .slice A12 a c12, a, xs⟩] [fun M W => Flat M W ls xs2, fun M W => Flat M W ot xs] w')
          case first =>
            rename_i J_ K_ hJ_ hM_
            exact kept_rows (by kernel_rfl) hlt hfb1 hfb2 hc4 hN4 HBY HGW HSB HRW HWE HCNT HN HBL HAS HBS HH hJ_ hM_
          case rest =>
            obtain ⟨i, M7, ls, xs2, A17, c17, rfl, hi4, hll, hkk, HT⟩ := hcut
            clear HH
            obtain ⟨wd, rfl⟩ : ∃ wd : World, wd = wc := ⟨_, rfl⟩
            have HH := Lib.hid HT
            have HLL := Lib.hid hll
            have HKK := Lib.hid hkk
            clear HT hll hkk
            obtain ⟨Ar, cr, M6, er, er1, er2, HG, _⟩ := HH.out.freeze (α := List Int) (l := ls) rfl HLL.out.symm (HH.out.fact (.head _)) (fun g hg => nomatch hg)
            rw [HLL.out] at er er1
            obtain ⟨rfl, rfl⟩ : A17 = Ar ∧ c17 = cr := by injection er with h1 _ h2; exact ⟨h1, h2⟩
            have HS := Lib.hid HG
            have HE := Lib.hid (show i ≤ c17 ∧ c17 ≤ 9223372036854775807 from ⟨er1, er2⟩)
            clear HG er er1 er2 HH
            go_wp2_with (at_builtin; obtain ⟨i0, hI, hz0, hz1, hz2⟩ := info_parts infoIntss; refine wpList_append_rows (by rfl) _ _ 30 (by rfl) 59 i0 _ 1 24 Tryd.underlying30 hI hz0 hz1 hz2 rfl (by decide) (HS.out.below ((Below.refl _ _).alloc (Nat.le_refl _) _)) (by rfl) _ _ 1 _ [.slice A17 i c17] (by rfl) (reads_blk (Blk.new _ _ _) rfl) (by first | exact intVals_one _ | simp [Value.oneCell']) (by unfold maxLen; omega) (by omega) ?_; intro v5 w9 M9 h5 _; obtain ⟨A7, c7, rfl⟩ := h5.form (.head _); have H7 := Lib.hid h5; clear h5 hI hz0 hz1 hz2)
            have T5 := Lib.hid (((H7.out.less (L' := [fun M W => Flat M W ot xs]) (fun P hP => .tail _ (.tail _ hP))).flat (news := [ls]) (Flat.single ⟨A17, c17, by rw [HLL.out], by rw [HLL.out]; exact HE.out.1, HE.out.2, H7.out.fact (.head _)⟩)).unbox)
            clear H7 HS
            go_roundg (gk2 - 1)
            case measure => omega
            case rel =>
              refine ⟨a + 1, _, ot ++ [ls], xs ++ [.slice A17 i c17], by omega, by go_num, by rw [List.length_append, HOL.out]; rfl, fun j hj => ?_, T5.out⟩
              by_cases hja : j < a
              · rw [List.getD_eq_getElem?_getD (l := ot ++ [ls]), List.getElem?_append_left (by rw [HOL.out]; exact hja), ← List.getD_eq_getElem?_getD]
                exact HOK.out j hja
              · obtain rfl : j = a := by omega
                rw [List.getD_eq_getElem?_getD (l := ot ++ [ls]), List.getElem?_append_right (by rw [HOL.out]; exact Nat.le_refl _), HOL.out, Nat.sub_self]
                exact HKK.out
    · obtain rfl : a = wl.length := by omega
      have HBA := Lib.hid HO.out.h.bl
      have hrow := HO.out.rowSl (α := List (List Int)) (l := ot) (by rw [HOL.out]; exact .head _) (HO.out.fact (.head _))
      obtain ⟨Ar, cr, er, er1, er2, hsl⟩ := hrow
      rw [HOL.out] at er er1
      obtain ⟨rfl, rfl⟩ : A12 = Ar ∧ c12 = cr := by injection er with h1 _ h2; exact ⟨h1, h2⟩
      have HSO := Lib.hid hsl
      clear HO er er1 er2 hsl
      go_wp2_with fail
      go_meet
      case rel => exact ⟨ot, A12, c12, rfl, HOL.out, HOK.out, HSO.out, HBA.out⟩
end Go.Proofs.YtdpcdocaahjeoaaDoor
