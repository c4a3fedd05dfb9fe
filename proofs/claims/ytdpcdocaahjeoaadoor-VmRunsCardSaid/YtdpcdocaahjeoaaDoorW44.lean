/- Program: what its ways have in common; the second way. -/
import Derived.Test.YtdpcdocaahjeoaaDoorM12
import Derived.Test.YtdpcdocaahjeoaaDoorW41
import Derived.Deep.CutBlock
import Derived.WalkLawsBesides
namespace Go.Proofs.YtdpcdocaahjeoaaDoor
open Go Go.RowKit
/-- What Program comes to. -/
def ProgP (s : Vm.Shape) (w : World) (e : Ending) (w' : World) : Prop := ∃ p v, e = .returned v ∧ Rep [] w' p v ∧ Vm.Fine s 20 p ∧ Below w.heap.size w w'
theorem progP_of {s : Vm.Shape} {p : List Vm.Ins} {w W : World} {M : List Nat} {bx : List Box} {L : List (List Nat → World → Prop)} {rs : List Rw} {v : Value} {n : Nat} {xs : List Value} (h : HR w [] M bx (⟨58, 4, v, n, xs⟩ :: rs) L W) (hn : n = p.length) (hx : xs = insVals p) (hf : Vm.Fine s 20 p) : ProgP s w (.returned v) W := by
  subst hn hx
  exact ⟨p, v, rfl, Rep.of_own (h.own _ (.head _)) (flat_ins (hf.allIns (by decide))) (fun _ _ h => by cases h), hf, h.h.bl⟩
theorem insVals_one (p : List Vm.Ins) : ∀ u ∈ insVals p, u.oneCell' = true := by
  intro u hu
  unfold insVals at hu
  obtain ⟨i, _, hi⟩ := List.mem_flatMap.1 hu
  exact insCells_one i u hi
theorem insVals_append (p q : List Vm.Ins) : insVals p ++ insVals q = insVals (p ++ q) := by simp [insVals]
/-- The branch at a slot, found in a function's code. -/
def brAt (t : Nat) : Code → Option Code
  | .cond (.tmp k) a b => if k = t then some (.cond (.tmp k) a b) else match brAt t a with
    | some c => some c
    | none => brAt t b
  | .cond _ a b => match brAt t a with
    | some c => some c
    | none => brAt t b
  | .seq a b => match brAt t a with
    | some c => some c
    | none => brAt t b
  | .loop c => brAt t c
  | .block _ c => brAt t c
  | .scope c => brAt t c
  | _ => none
noncomputable def progAt (t : Nat) : Code := ((Tryd.f11.body.bind (brAt t)).getD .skip)
/-- The state behind the first eight draws. -/
abbrev PState (w : World) (M : List Nat) (xb : Nat) (ver : Int) (Ak B C A : Option Addr) (nk cp nl d nr e : Nat) (ks : List Knd) (l : List Int) (W : World) : Prop :=
  HR w [] M [(xb, 27, #[.int .i64 ver, .slice Ak nk cp, .slice B nl d, .slice C nr e])] [] [fun M W => SlAt M W Ak ks, fun M W => SlAt M W A l] W
abbrev AtC (A : Option Addr) (n c : Nat) (l : List Int) : Prop := ∀ (i m : Int) (W : World), SlAt [] W A l → inI i → 1 ≤ m → m ≤ 9223372036854775807 → Calls Tryd.prog 35 #[.slice A n c, .int .i64 i, .int .i64 m] W fun e w' => ∃ v : Int, e = .returned (.int .i64 v) ∧ 0 ≤ v ∧ v < m ∧ W = w'
theorem List.set_getElem_self' {α : Type} {l : List α} {j : Nat} {x : α} (h : l[j]? = some x) : l.set j x = l := by
  obtain ⟨hj, rfl⟩ := List.getElem?_eq_some_iff.1 h
  exact List.set_getElem_self hj
set_option maxRecDepth 1000000 in
set_option maxHeartbeats 100000000 in
theorem prog_1 {w W : World} {M : List Nat} {xb : Nat} {ver : Int} {Ak B C A : Option Addr} {nk cp nl d nr e n c k f : Nat} {ks : List Knd} {l : List Int} {nn code op : Int} {Q : Exit → Act → World → Prop} {u0 u3 u10 u11 u12 u13 u14 u15 u16 u17 u18 u19 u20 u21 u22 u23 u24 u25 u26 u27 u28 u29 u30 u31 u32 u33 u34 u35 u36 u37 u38 u39 u40 u41 u42 u43 u44 u45 u46 u47 u48 u49 u50 u51 u52 u53 u54 u55 u56 u57 u58 u59 u61 u62 u63 u64 u65 u66 u67 u68 u69 u70 u71 u72 u73 u74 u75 u76 u77 u78 u79 u80 u81 u82 u83 u84 u85 u86 u87 u88 u89 u90 u91 u92 u93 u94 u95 u96 u97 u98 u99 u100 u101 u102 u103 u104 u105 u106 u107 u108 u109 u110 u111 u112 u113 u114 u115 u116 u117 u118 u119 u120 u121 u122 u123 u124 u125 u126 u127 u128 u129 u130 u131 u132 u133 u134 u135 u136 u137 u138 u139 u140 u141 u142 u143 u144 u145 u146 u147 u148 u149 u150 u151 u152 u153 u154 u155 u156 u157 u158 u159 u160 u161 u162 u163 u164 u165 u166 u167 u168 u169 u170 u171 u172 u173 u174 u175 u176 u177 u178 u179 u180 u181 u182 u183 u184 u185 u186 u187 u188 u189 u190 u191 u192 u193 u194 u195 u196 u197 u198 u199 u200 u201 u202 u203 u204 u205 u206 u207 u208 u209 u210 u211 u212 u213 u214 u215 u216 u217 u218 u219 u220 u221 u222 u223 u224 u225 u226 u227 u228 u229 u230 u231 u232 u233 u234 u235 u236 u237 u238 u239 u240 : Value} (H : Hid (PState w M xb ver Ak B C A nk cp nl d nr e ks l W)) (HAT : Hid (AtC A n c l)) (HNK : Hid (ks.length = nk)) (hk : k < nk) (hk6 : nk ≤ 6) (HFL : Hid (∀ kn ∈ ks, 1 ≤ (Sc.flds kn).length ∧ (Sc.flds kn).length ≤ 10)) (HF : Hid (∃ h : k < ks.length, f < (Sc.flds ks[k]).length)) (hnn : -2 ≤ nn ∧ nn ≤ 10) (hcode : 1 ≤ code ∧ code ≤ 3) (hop : op = 7 ∨ op = 8) (hR : ∀ a w', bodyPost Tryd.prog Tryd.f11 (ProgP (shp ks) w) .ret a w' → Q .ret a w') :
    Code.wp Tryd.prog (progAt 60) Q ⟨(u0 :: .slice A n c :: .pointer (some ⟨xb, 0, none⟩) :: u3 :: .slice none 0 0 :: .int .i64 (k : Int) :: .int .i64 (f : Int) :: .int .i64 nn :: .int .i64 code :: .int .i64 op :: u10 :: u11 :: u12 :: u13 :: u14 :: u15 :: u16 :: u17 :: u18 :: u19 :: u20 :: u21 :: u22 :: u23 :: u24 :: u25 :: u26 :: u27 :: u28 :: u29 :: u30 :: u31 :: u32 :: u33 :: u34 :: u35 :: u36 :: u37 :: u38 :: u39 :: u40 :: u41 :: u42 :: u43 :: u44 :: u45 :: u46 :: u47 :: u48 :: u49 :: u50 :: u51 :: u52 :: u53 :: u54 :: u55 :: u56 :: u57 :: u58 :: u59 :: .bool true :: u61 :: u62 :: u63 :: u64 :: u65 :: u66 :: u67 :: u68 :: u69 :: u70 :: u71 :: u72 :: u73 :: u74 :: u75 :: u76 :: u77 :: u78 :: u79 :: u80 :: u81 :: u82 :: u83 :: u84 :: u85 :: u86 :: u87 :: u88 :: u89 :: u90 :: u91 :: u92 :: u93 :: u94 :: u95 :: u96 :: u97 :: u98 :: u99 :: u100 :: u101 :: u102 :: u103 :: u104 :: u105 :: u106 :: u107 :: u108 :: u109 :: u110 :: u111 :: u112 :: u113 :: u114 :: u115 :: u116 :: u117 :: u118 :: u119 :: u120 :: u121 :: u122 :: u123 :: u124 :: u125 :: u126 :: u127 :: u128 :: u129 :: u130 :: u131 :: u132 :: u133 :: u134 :: u135 :: u136 :: u137 :: u138 :: u139 :: u140 :: u141 :: u142 :: u143 :: u144 :: u145 :: u146 :: u147 :: u148 :: u149 :: u150 :: u151 :: u152 :: u153 :: u154 :: u155 :: u156 :: u157 :: u158 :: u159 :: u160 :: u161 :: u162 :: u163 :: u164 :: u165 :: u166 :: u167 :: u168 :: u169 :: u170 :: u171 :: u172 :: u173 :: u174 :: u175 :: u176 :: u177 :: u178 :: u179 :: u180 :: u181 :: u182 :: u183 :: u184 :: u185 :: u186 :: u187 :: u188 :: u189 :: u190 :: u191 :: u192 :: u193 :: u194 :: u195 :: u196 :: u197 :: u198 :: u199 :: u200 :: u201 :: u202 :: u203 :: u204 :: u205 :: u206 :: u207 :: u208 :: u209 :: u210 :: u211 :: u212 :: u213 :: u214 :: u215 :: u216 :: u217 :: u218 :: u219 :: u220 :: u221 :: u222 :: u223 :: u224 :: u225 :: u226 :: u227 :: u228 :: u229 :: u230 :: u231 :: u232 :: u233 :: u234 :: u235 :: u236 :: u237 :: u238 :: u239 :: u240 :: []).toArray, []⟩ W := by
  conv => arg 2; whnf
  obtain ⟨y0, y1, y2, y3⟩ := cells4 (H.out.box (.head _))
  have HSL := Lib.hid ((H.out.fact (.tail _ (.head _))).sub (G' := []) (fun g hg => nomatch hg))
  have HK6 := Lib.hid (show inI 6 by unfold inI; omega)
  have HK7 := Lib.hid (show inI 7 by unfold inI; omega)
  go_upto_region 13 with (go_at_call 35; refine (HAT.out 6 (nk : Int) _ HSL.out HK6.out (by omega) (by omega)).mono ?_; rintro e w3 ⟨o, rfl, o1, o2, rfl⟩)
  go_upto_region 14 with (go_at_call 35; refine (HAT.out 7 3 _ HSL.out HK7.out (by omega) (by omega)).mono ?_; rintro e w3 ⟨a, rfl, a1, a2, rfl⟩)
  obtain ⟨M2, T, _⟩ := H.out.take ((Below.refl _ _).alloc (Nat.le_refl _) (.cells #[.int .i64 4, .int .i64 6, .int .i64 o, .int .i64 0, .int .i64 1, .int .i64 5, .int .i64 (1 + a), .int .i64 0, .int .i64 7, .int .i64 6, .int .i64 5, .int .i64 13] 58)) (World.ownsRow_lit W #[.int .i64 4, .int .i64 6, .int .i64 o, .int .i64 0, .int .i64 1, .int .i64 5, .int .i64 (1 + a), .int .i64 0, .int .i64 7, .int .i64 6, .int .i64 5, .int .i64 13] 3 (size := 4) (Nat.le_refl _) (by decide) rfl)
  have HT := Lib.hid T
  clear T H y0 y1 y2 y3 HSL
  generalize hW2 : W.alloc _ = W2 at HT ⊢
  generalize W.heap.size = gp at HT ⊢
  clear hW2
  obtain ⟨P, hP⟩ : ∃ P, Vm.overP (k : Int) (f : Int) (-1) 0 op nn code = P := ⟨_, rfl⟩
  obtain ⟨hk', hff⟩ := HF.out
  have hfl := HFL.out _ (List.getElem_mem hk')
  have HPF := Lib.hid (show Vm.Fine (shp ks) 11 P by
    rw [← hP]
    exact Vm.over_fine (by omega) (by rw [shp_len, HNK.out]; omega) (by rw [shp_len, HNK.out]; omega) (by omega) (by rw [Int.toNat_natCast, shp_get hk']; omega) (by omega) (by omega) hop (by omega) (by omega) (by omega) (by omega))
  have HPL := Lib.hid (show P.length = 10 by rw [← hP]; rfl)
  have CL := Lib.hid (fun W => loop_any (k : Int) (f : Int) (-1) 0 op nn code W)
  rw [hP] at CL
  clear hP hfl hff
  go_wp2_with (go_at_call 37; ((with_reducible refine (CL.out _).mono ?_)); rintro e w3 ⟨v14, rfl, hown, hb⟩; rw [HPL.out] at hown; obtain ⟨M3, T3, _⟩ := HT.out.take hb hown; obtain ⟨A14, c14, rfl⟩ := T3.form (.head _); obtain ⟨g14, rfl⟩ := T3.rform (.head _) (by omega); have H3 := Lib.hid T3; clear T3 hown hb HT)
  go_loopg [15] 10 (fun r i wr => ∃ (j : Nat) (M : List Nat), j + r = 10 ∧ i = .int .i64 j ∧ HR w [] M [(xb, 27, #[.int .i64 ver, .slice Ak nk cp, .slice B nl d, .slice C nr e])] [⟨58, 4, .slice (some ⟨g14, 0, none⟩) 10 c14, 10, insVals (Vm.shiftTo j P)⟩, ⟨58, 4, .slice (some ⟨gp, 0, none⟩) 3 3, 3, [.int .i64 4, .int .i64 6, .int .i64 o, .int .i64 0, .int .i64 1, .int .i64 5, .int .i64 (1 + a), .int .i64 0, .int .i64 7, .int .i64 6, .int .i64 5, .int .i64 13]⟩] [fun M W => SlAt M W Ak ks, fun M W => SlAt M W A l] wr)
  case atStart => exact ⟨0, M3, by omega, rfl, by rw [Vm.shiftTo_zero]; exact H3.out⟩
  case round =>
    obtain ⟨j, M4, hj, rfl, HT⟩ := hrel
    clear H3
    obtain ⟨wo, rfl⟩ : ∃ wo : World, wo = wr := ⟨_, rfl⟩
    have T4 := Lib.hid HT
    clear HT
    by_cases hlt : j < 10
    · have k1 : (j : Int) < 10 := by omega
      have k0 : (0 : Int) ≤ (j : Int) := by omega
      have hjl := Lib.hid (show j < P.length by rw [HPL.out]; exact hlt)
      obtain ⟨i9, hi9⟩ : ∃ i, P[j]'hjl.out = i := ⟨_, rfl⟩
      have hin := Vm.ins_in (HPF.out.ok _ (List.getElem_mem hjl.out)) (by rw [HPL.out]; decide)
      rw [hi9] at hin
      have HGE := Lib.hid (show (Vm.shiftTo j P)[j]'(by rw [Vm.shiftTo_length]; exact hjl.out) = P[j]'hjl.out by have := Vm.shiftTo_at hjl.out; rw [List.getElem?_eq_getElem (by rw [Vm.shiftTo_length]; exact hjl.out)] at this; injection this)
      have hat := Vm.shiftTo_at hjl.out
      rw [hi9] at hat
      obtain ⟨o9, a9, b9, c9⟩ := i9
      have q0 := T4.out.rcell (.head _) (by omega) (Vm.insVals_at hat (t := 0) (u := .int .i64 o9) rfl)
      have q1 := T4.out.rcell (.head _) (by omega) (Vm.insVals_at hat (t := 1) (u := .int .i64 a9) rfl)
      have q3 := T4.out.rcell (.head _) (by omega) (Vm.insVals_at hat (t := 3) (u := .int .i64 c9) rfl)
      have f1 := T4.out.rfroz (.head _) (by omega) (j * 4 + 1)
      have f3 := T4.out.rfroz (.head _) (by omega) (j * 4 + 3)
      rw [Nat.add_zero] at q0
      have HI := Lib.hid hi9
      obtain ⟨i1, i2, i3, i4, i5, i6, i7, i8⟩ := hin
      dsimp only at i1 i2 i3 i4 i5 i6 i7 i8
      clear hat hi9
      by_cases h6 : o9 = 6
      · subst h6
        have hs := T4.out.setRow (.int .i64 (a9 + 3)) (k := j * 4 + 1) (by omega)
        rw [Vm.insVals_set (t := 1) (i' := (6, a9 + 3, b9, c9)) (by rw [Vm.shiftTo_length]; exact hjl.out) (by rw [HGE.out, HI.out]; rfl) (by decide)] at hs
        have T5 := Lib.hid hs
        clear hs
        go_wp2_with fail
        go_roundg (gk - 1)
        case measure => omega
        case rel =>
          refine ⟨j + 1, M4, by omega, by go_num, ?_⟩
          rw [Vm.shiftTo_succ hjl.out, HI.out]
          exact T5.out
      by_cases h7 : o9 = 7
      · subst h7
        have hs := T4.out.setRow (.int .i64 (c9 + 3)) (k := j * 4 + 3) (by omega)
        rw [Vm.insVals_set (t := 3) (i' := (7, a9, b9, c9 + 3)) (by rw [Vm.shiftTo_length]; exact hjl.out) (by rw [HGE.out, HI.out]; rfl) (by decide)] at hs
        have T5 := Lib.hid hs
        clear hs
        go_wp2_with fail
        go_roundg (gk - 1)
        case measure => omega
        case rel =>
          refine ⟨j + 1, M4, by omega, by go_num, ?_⟩
          rw [Vm.shiftTo_succ hjl.out, HI.out]
          exact T5.out
      by_cases h8 : o9 = 8
      · subst h8
        have hs := T4.out.setRow (.int .i64 (c9 + 3)) (k := j * 4 + 3) (by omega)
        rw [Vm.insVals_set (t := 3) (i' := (8, a9, b9, c9 + 3)) (by rw [Vm.shiftTo_length]; exact hjl.out) (by rw [HGE.out, HI.out]; rfl) (by decide)] at hs
        have T5 := Lib.hid hs
        clear hs
        go_wp2_with fail
        go_roundg (gk - 1)
        case measure => omega
        case rel =>
          refine ⟨j + 1, M4, by omega, by go_num, ?_⟩
          rw [Vm.shiftTo_succ hjl.out, HI.out]
          exact T5.out
      · have t6 : (o9 == 6) = false := beq_eq_false_iff_ne.2 h6
        have t7 : (o9 == 7) = false := beq_eq_false_iff_ne.2 h7
        have t8 : (o9 == 8) = false := beq_eq_false_iff_ne.2 h8
        go_wp2_with fail
        go_roundg (gk - 1)
        case measure => omega
        case rel =>
          refine ⟨j + 1, M4, by omega, by go_num, ?_⟩
          rw [Vm.shiftTo_succ hjl.out, HI.out]
          have e1 : Vm.shift (o9, a9, b9, c9) = (o9, a9, b9, c9) := by unfold Vm.shift; simp only [h6, h7, h8, or_self, if_false]
          rw [e1, ← HI.out, List.set_getElem_self' (Vm.shiftTo_at hjl.out)]
          exact T4.out
    · obtain rfl : j = 10 := by omega
      have hend := T4.out.rswap
      have hread := Reads.of_own (T4.out.own _ (.head _))
      rw [show Vm.shiftTo 10 P = P.map Vm.shift by have := Vm.shiftTo_all P; rw [HPL.out] at this; exact this] at hend hread
      have HE := Lib.hid hend
      have HRD := Lib.hid hread
      clear hend hread T4
      go_wp2_with (at_builtin; obtain ⟨i0, hI, hz0, hz1, hz2⟩ := info_parts infoRIns; refine wpList_append_rows (by rfl) _ _ 32 (by rfl) 58 i0 _ 4 32 Tryd.underlying32 hI hz0 hz1 hz2 rfl (by decide) HE.out (by rfl) _ _ 10 c14 (insVals (P.map Vm.shift)) (by rfl) (HRD.out) (insVals_one _) (by unfold maxLen; omega) (by omega) ?_; intro v5 w5 M5 h5 _; obtain ⟨A7, c7, rfl⟩ := h5.form (.head _); have H7 := Lib.hid h5; clear h5 hI hz0 hz1 hz2)
      go_ret
      refine progP_of H7.out (p := [(4, 6, o, 0), (1, 5, 1 + a, 0), (7, 6, 5, 13)] ++ P.map Vm.shift) (by rw [List.length_append, List.length_map, HPL.out]; rfl) (by rw [← insVals_append]; rfl) ⟨by rw [List.length_append, List.length_map, HPL.out]; simp, fun i hi => ?_, fun i hi => ?_⟩
      · rw [List.length_append, List.length_map, HPL.out]
        rcases List.mem_append.1 hi with hi | hi
        · simp only [List.mem_cons, List.not_mem_nil, or_false] at hi
          rcases hi with rfl | rfl | rfl
          · exact Vm.ok_size (by omega) (by omega) (by omega) (by omega)
          · exact Vm.ok_load (by omega) (by omega) (by omega) (by omega)
          · exact Vm.ok_less (.inl rfl) (by omega) (by omega) (by omega) (by omega) (by omega) (by simp)
        · obtain ⟨i', hi', rfl⟩ := List.mem_map.1 hi
          have := Vm.shift_ok (HPF.out.ok i' hi')
          rw [HPL.out] at this
          exact this
      · rcases List.mem_append.1 hi with hi | hi
        · simp only [List.mem_cons, List.not_mem_nil, or_false] at hi
          rcases hi with rfl | rfl | rfl
          · exact Vm.nm_size (by rw [shp_len, HNK.out]; omega)
          · exact Vm.nm_other (by simp) (by simp)
          · exact Vm.nm_other (by simp) (by simp)
        · obtain ⟨i', hi', rfl⟩ := List.mem_map.1 hi
          exact Vm.shift_nm (HPF.out.nm i' hi')
end Go.Proofs.YtdpcdocaahjeoaaDoor
