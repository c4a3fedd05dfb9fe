/- Parts of the proof, joined: W36q, W36, W37. -/
import Derived.Test.YtmplaikgbeeikaaGreatDoorQ6
import Derived.Test.YtmplaikgbeeikaaGreatDoorQ7
import Derived.Deep.CutBlock
set_option linter.unusedVariables false
set_option linter.unusedSimpArgs false
set_option linter.unusedSectionVars false
namespace Go.Proofs.YtmplaikgbeeikaaGreatDoor
open Go Go.RowKit
/-- Region 3 of the walk. -/
noncomputable def kmn_0_code : Code := ((Tryz.f27.body.bind (regAt 3)).getD .skip)
set_option maxRecDepth 1000000 in
set_option maxHeartbeats 100000000 in
theorem kmn_0 {K : MkK} {M : List Nat} {bx : List Box} {rs : List Rw} {L : List (List Nat → World → Prop)} {_W : World} {ks : List Knd} {n : Nat} {kxs : List Value} {A0 : Option Addr} {c0 : Nat} {rb : Nat} {z : Nat} {lo : Int} {wo : World}  {J_ K_ : Act → World → Prop} {Q_ : Exit → Act → World → Prop} {cd_ : Code} (hcd_ : cd_ = kmn_0_code) (hn2 : n ≤ 2) (_z1 : (0 : Int) ≤ (↑z : Int)) (_z2 : (↑z : Int) < (6 : Int)) (lo0 : (0 : Int) ≤ lo) (lo4 : lo ≤ (4 : Int)) (_z3 : (↑z : Int) < (6 : Int)) (H :  Hid (MkH K (rb :: M) ((rb, (49 : TypeId), #[Value.string { data := #[] }, Value.int IntKind.i64 (0 : Int), Value.int IntKind.i64 (0 : Int), Value.slice none 0 0]) :: bx) ({ e := (49 : TypeId), size := 4, v := Value.slice A0 n c0, n := n, xs := kxs } :: rs) ((fun M W => Flat M W ks kxs) :: L) wo))
    (hJ_ : ∀ (a' : Act) (w' : World), (∃ u7 u14 u15 u16 u17 u18 u19 u20 u21 u22 u23 u24 u25 u26 u27 u28 u29 u30 u31 u32 u33 u34 u35 u36 u37 u38 u39 u40 u41 u42 u43 u44 u45 u46 u47 u48 u49 u50 u51 u52 u53 u54 u55 u56 u57 u58 u59 u60 u61 u62 u63 u64 u65 u66 u67 u68 u69 u70 u71 u72 u73 u74 u75 u76 u77 u78 u79 u80 u81 u82 u83 u84 u85 u86 u87 u88 u89 u90 u91 u92 u93 u94 u95 u96 u97 u98 u99 u100 u101 u102 u103 u104 u105 u106 u107 u108 u109 u110 u111 u112 u113 u114 u115 u116 u117 u118 u119 u120 u121 u122 u123 u124 u125 u126 u127 u128 u129 u130 u131 u132 u133 u134 u135 u136 u137 u138 u139 u140 u141 u142 u143 u144 u145 u146 u147 u148 u149 u150 u151 u152 u153 u154 u155 u156 u157 u158 u159 u160 u161 u162 u163 u164 u165 u166 u167 u168 u169 u170 u171 u172 u173 u174 u175 u176 u177 u178 u179 u180 u181 u182 u183, ((∃ hi, lo ≤ hi ∧ hi ≤ lo + (4 : Int) ∧ KSt K bx rs L rb n (Value.slice A0 n c0) u7 (Sg.kname n) lo hi [] ks w')) ∧ a' = ⟨(K.p :: (Value.slice A0 n c0) :: undef :: undef :: (Value.pointer (some (Addr.mk (rb) (0) none))) :: (Value.int IntKind.i64 (↑n : Int)) :: (Value.int IntKind.i64 lo) :: u7 :: undef :: undef :: undef :: undef :: undef :: undef :: u14 :: u15 :: u16 :: u17 :: u18 :: u19 :: u20 :: u21 :: u22 :: u23 :: u24 :: u25 :: u26 :: u27 :: u28 :: u29 :: u30 :: u31 :: u32 :: u33 :: u34 :: u35 :: u36 :: u37 :: u38 :: u39 :: u40 :: u41 :: u42 :: u43 :: u44 :: u45 :: u46 :: u47 :: u48 :: u49 :: u50 :: u51 :: u52 :: u53 :: u54 :: u55 :: u56 :: u57 :: u58 :: u59 :: u60 :: u61 :: u62 :: u63 :: u64 :: u65 :: u66 :: u67 :: u68 :: u69 :: u70 :: u71 :: u72 :: u73 :: u74 :: u75 :: u76 :: u77 :: u78 :: u79 :: u80 :: u81 :: u82 :: u83 :: u84 :: u85 :: u86 :: u87 :: u88 :: u89 :: u90 :: u91 :: u92 :: u93 :: u94 :: u95 :: u96 :: u97 :: u98 :: u99 :: u100 :: u101 :: u102 :: u103 :: u104 :: u105 :: u106 :: u107 :: u108 :: u109 :: u110 :: u111 :: u112 :: u113 :: u114 :: u115 :: u116 :: u117 :: u118 :: u119 :: u120 :: u121 :: u122 :: u123 :: u124 :: u125 :: u126 :: u127 :: u128 :: u129 :: u130 :: u131 :: u132 :: u133 :: u134 :: u135 :: u136 :: u137 :: u138 :: u139 :: u140 :: u141 :: u142 :: u143 :: u144 :: u145 :: u146 :: u147 :: u148 :: u149 :: u150 :: u151 :: u152 :: u153 :: u154 :: u155 :: u156 :: u157 :: u158 :: u159 :: u160 :: u161 :: u162 :: u163 :: u164 :: u165 :: u166 :: u167 :: u168 :: u169 :: u170 :: u171 :: u172 :: u173 :: u174 :: u175 :: u176 :: u177 :: u178 :: u179 :: u180 :: u181 :: u182 :: u183 :: []).toArray, []⟩) → J_ a' w') (hM_ : ∀ (a' : Act) (w' : World), Met J_ a' w' → K_ a' w') :
    Code.wp Tryz.prog cd_ (Exit.then K_ Q_) ⟨(K.p :: (Value.slice A0 n c0) :: undef :: undef :: (Value.pointer (some (Addr.mk (rb) (0) none))) :: (Value.int IntKind.i64 (↑n : Int)) :: (Value.int IntKind.i64 lo) :: undef :: undef :: undef :: undef :: undef :: undef :: undef :: (Value.slice A0 n c0) :: (Value.int IntKind.i64 (↑n : Int)) :: (Value.slice (some (Addr.mk (rb + 1) (0) none)) 6 6) :: K.p :: (Value.int IntKind.i64 (↑z : Int)) :: (Value.pointer (some (Addr.mk (rb + 1) (z) none))) :: (Value.int IntKind.i64 lo) :: undef :: undef :: undef :: undef :: undef :: undef :: undef :: undef :: undef :: undef :: undef :: undef :: undef :: undef :: undef :: undef :: undef :: undef :: undef :: undef :: undef :: undef :: undef :: undef :: undef :: undef :: undef :: undef :: undef :: undef :: undef :: undef :: undef :: undef :: undef :: undef :: undef :: undef :: undef :: undef :: undef :: undef :: undef :: undef :: undef :: undef :: undef :: undef :: undef :: undef :: undef :: undef :: undef :: undef :: undef :: undef :: undef :: undef :: undef :: undef :: undef :: undef :: undef :: undef :: undef :: undef :: undef :: undef :: undef :: undef :: undef :: undef :: undef :: undef :: undef :: undef :: undef :: undef :: undef :: undef :: undef :: undef :: undef :: undef :: undef :: undef :: undef :: undef :: undef :: undef :: undef :: undef :: undef :: undef :: undef :: undef :: undef :: undef :: undef :: undef :: undef :: undef :: undef :: undef :: undef :: undef :: undef :: undef :: undef :: undef :: undef :: undef :: undef :: undef :: undef :: undef :: undef :: undef :: undef :: undef :: undef :: undef :: undef :: undef :: undef :: undef :: undef :: undef :: undef :: undef :: undef :: undef :: undef :: undef :: undef :: undef :: undef :: undef :: undef :: undef :: undef :: undef :: undef :: undef :: undef :: undef :: undef :: undef :: undef :: undef :: undef :: undef :: undef :: undef :: undef :: undef :: undef :: undef :: undef :: undef :: undef :: undef :: undef :: []).toArray, []⟩ wo := by
  subst hcd_
  conv => arg 2; whnf
  letI : Grow := K.grow
  apply RG.wp_region_typed (C := fun w' => K.R wo w') (n := 184) (m := 11) (l1 := [_, _, _, _, _, _, _, _, _, _, _]) (l2 := [_])
  · rfl
  · rfl
  · kernel_rfl
  · rfl
  · kernel_rfl
  · exact K.drew wo
  · exact fun u u' h hb => h.trans hb
  apply RG.wpT_typed (litT_kept K wo.heap.size 3 9 (fun cs => cs = #[.string ⟨#[112, 101, 114, 115, 111, 110]⟩, .string ⟨#[111, 114, 100, 101, 114]⟩, .string ⟨#[105, 116, 101, 109]⟩]) H.out.gmLt)
  · intro w' hC hf; unfold RG.Gives; clear hf
    have hs := Lib.hid (K.size hC)
    clear hC
    go_wp2_with fail
    refine RG.postT_mk rfl (K.grown (by go_grown)) ?_; simp only [RG.valAt, Array.getD_eq_getD_getElem?, List.getElem?_toArray, List.getElem?_cons_succ, List.getElem?_cons_zero, Option.getD_some]
    exact ⟨_, _, rfl, rfl, hs.out, Blk.new _ _ _⟩
  intro v21; (try simp only [Act.put, List.setIfInBounds_toArray, List.set_cons_zero, List.set_cons_succ])
  (apply RG.wpT_exact; · (intro w' hC hf; unfold RG.Gives; clear hf hC; go_wp2_with (fail); apply RG.postT_val rfl (Grow.refl _); simp only [RG.valAt, Array.getD_eq_getD_getElem?, List.getElem?_toArray, List.getElem?_cons_succ, List.getElem?_cons_zero, Option.getD_some]; exact rfl)); (try simp only [Act.put, List.setIfInBounds_toArray, List.set_cons_zero, List.set_cons_succ])
  apply RG.wpT_typed (T := PtrT wo.heap.size 9 (fun cs i => cs[i]? = some (.string (Sg.kname n)))) (ptrT_kept K _ _ _ H.out.gmLt)
  · intro w' hC hf; unfold RG.Gives; obtain ⟨cs, N, rfl, rfl, hge, hblk⟩ := hf.1 rfl; clear hf
    have k1 : (n : Int) < 3 := by omega
    go_wp2_with fail
    refine RG.postT_mk rfl (Grow.refl _) ?_; simp only [RG.valAt, Array.getD_eq_getD_getElem?, List.getElem?_toArray, List.getElem?_cons_succ, List.getElem?_cons_zero, Option.getD_some]; exact ⟨_, N, n, by first | rfl | simp [Addr.add], names_at n hn2, hge, hblk⟩
  intro v23; (try simp only [Act.put, List.setIfInBounds_toArray, List.set_cons_zero, List.set_cons_succ])
  (apply RG.wpT_exact; · (intro w' hC hf; unfold RG.Gives; obtain ⟨cs, N, i, rfl, hq, hge, hblk⟩ := hf.1 rfl; have q := hblk.cell i; rw [hq] at q; clear hge hblk hq; clear hf hC; go_wp2_with (fail); apply RG.postT_val rfl (Grow.refl _); simp only [RG.valAt, Array.getD_eq_getD_getElem?, List.getElem?_toArray, List.getElem?_cons_succ, List.getElem?_cons_zero, Option.getD_some]; exact rfl)); (try simp only [Act.put, List.setIfInBounds_toArray, List.set_cons_zero, List.set_cons_succ])
  (apply RG.wpT_exact; · (intro w' hC hf; unfold RG.Gives; clear hf hC; go_wp2_with (fail); apply RG.postT_val rfl (Grow.refl _); simp only [RG.valAt, Array.getD_eq_getD_getElem?, List.getElem?_toArray, List.getElem?_cons_succ, List.getElem?_cons_zero, Option.getD_some]; exact rfl)); (try simp only [Act.put, List.setIfInBounds_toArray, List.set_cons_zero, List.set_cons_succ])
  (apply RG.wpT_exact; · (intro w' hC hf; unfold RG.Gives; clear hf hC; go_wp2_with (fail); apply RG.postT_val rfl (Grow.refl _); simp only [RG.valAt, Array.getD_eq_getD_getElem?, List.getElem?_toArray, List.getElem?_cons_succ, List.getElem?_cons_zero, Option.getD_some]; exact rfl)); (try simp only [Act.put, List.setIfInBounds_toArray, List.set_cons_zero, List.set_cons_succ])
  (apply RG.wpT_exact; · (intro w' hC hf; unfold RG.Gives; clear hf hC; go_wp2_with (fail); apply RG.postT_val rfl (Grow.refl _); simp only [RG.valAt, Array.getD_eq_getD_getElem?, List.getElem?_toArray, List.getElem?_cons_succ, List.getElem?_cons_zero, Option.getD_some]; exact rfl)); (try simp only [Act.put, List.setIfInBounds_toArray, List.set_cons_zero, List.set_cons_succ])
  apply RG.wpT_typed (T := fun v _ => ∃ z : Nat, v = .int .i64 (z : Int) ∧ z < 5) (fun v w w' h _ => h)
  · intro w' hC hf; unfold RG.Gives; clear hf
    go_wp2_with fail
    go_at_call 26
    refine ((H.out.turn hC).take 5 (by omega) (by omega)).mono ?_
    rintro e w3 ⟨v, rfl, v1, v2, hr⟩
    obtain ⟨z, rfl⟩ : ∃ z' : Nat, v = z' := ⟨v.toNat, by omega⟩
    go_wp2_with fail
    refine RG.postT_mk rfl hr ?_; simp only [RG.valAt, Array.getD_eq_getD_getElem?, List.getElem?_toArray, List.getElem?_cons_succ, List.getElem?_cons_zero, Option.getD_some]; exact ⟨z, rfl, by omega⟩
  intro v28; (try simp only [Act.put, List.setIfInBounds_toArray, List.set_cons_zero, List.set_cons_succ])
  apply RG.wpT_typed (T := fun v _ => ∃ z : Nat, v = .int .i64 (lo + z) ∧ z < 5) (fun v w w' h _ => h)
  · intro w' hC hf; unfold RG.Gives; obtain ⟨z, rfl, z1⟩ := hf.1 rfl; clear hC; clear hf
    go_wp2_with fail
    refine RG.postT_mk rfl (Grow.refl _) ?_; simp only [RG.valAt, Array.getD_eq_getD_getElem?, List.getElem?_toArray, List.getElem?_cons_succ, List.getElem?_cons_zero, Option.getD_some]; exact ⟨z, rfl, z1⟩
  intro v29; (try simp only [Act.put, List.setIfInBounds_toArray, List.set_cons_zero, List.set_cons_succ])
  apply RG.wpT_typed (T := fun v _ => ∃ z : Nat, v = .agg #[.string (Sg.kname n), .int .i64 lo, .int .i64 (lo + z), .slice none 0 0] ∧ z < 5) (fun v w w' h _ => h)
  · intro w' hC hf; unfold RG.Gives; obtain ⟨z, rfl, z1⟩ := hf.1 rfl; clear hC; clear hf
    go_wp2_with fail
    refine RG.postT_mk rfl (Grow.refl _) ?_; simp only [RG.valAt, Array.getD_eq_getD_getElem?, List.getElem?_toArray, List.getElem?_cons_succ, List.getElem?_cons_zero, Option.getD_some]; exact ⟨z, rfl, z1⟩
  intro v30; (try simp only [Act.put, List.setIfInBounds_toArray, List.set_cons_zero, List.set_cons_succ])
  apply RG.wpT_typed (ptrT_kept K wo.heap.size 49 (fun cs i => cs = #[.string ⟨#[]⟩, .int .i64 0, .int .i64 0, .slice none 0 0] ∧ i = 0) H.out.gmLt)
  · intro w' hC hf; unfold RG.Gives; clear hf
    have hs := Lib.hid (K.size hC)
    clear hC
    go_wp2_with fail
    refine RG.postT_mk rfl (K.grown (by go_grown)) ?_; simp only [RG.valAt, Array.getD_eq_getD_getElem?, List.getElem?_toArray, List.getElem?_cons_succ, List.getElem?_cons_zero, Option.getD_some]
    exact ⟨_, _, 0, rfl, ⟨rfl, rfl⟩, hs.out, Blk.new _ _ _⟩
  intro v7; (try simp only [Act.put, List.setIfInBounds_toArray, List.set_cons_zero, List.set_cons_succ])
  apply RG.wpT_done
  intro w4 hC hall
  obtain ⟨cs, kb, i, rfl, ⟨rfl, rfl⟩, hge, hblk⟩ := hall.1
  obtain ⟨d, rfl, d1⟩ := hall.2.1
  have T := Lib.hid (H.out.adopt hC hge hblk)
  have q := hblk; have f0 := q.frozen 0; have f1 := q.frozen 1; have f2 := q.frozen 2; have f3 := q.frozen 3; have q0 := q.cell 0; have q1 := q.cell 1; have q2 := q.cell 2; have q3 := q.cell 3; (simp at q0 q1 q2 q3); clear q
  clear hall hC hge hblk
  go_wp2_with fail
  go_meet
  case rel =>
    have T1 := ((((T.out.set0 0 (.string (Sg.kname n))).set0 1 (.int .i64 lo)).set0 2 (.int .i64 (lo + d))).set0 3 (.slice none 0 0)).push 52 8
    have T2 := T1.add (keeps_flat ([] : List Fld) []) rfl
    exact ⟨lo + d, by omega, by omega, _, kb, .slice none 0 0, [], kxs, rfl, T2⟩
end Go.Proofs.YtmplaikgbeeikaaGreatDoor
namespace Go.Proofs.YtmplaikgbeeikaaGreatDoor
open Go Go.RowKit
/-- Region 4 of the walk. -/
noncomputable def kmn_1_code : Code := ((Tryz.f27.body.bind (regAt 4)).getD .skip)
set_option maxRecDepth 1000000 in
set_option maxHeartbeats 100000000 in
theorem kmn_1 {K : MkK} {_M : List Nat} {bx : List Box} {rs : List Rw} {L : List (List Nat → World → Prop)} {_W : World} {ks : List Knd} {n : Nat} {A0 : Option Addr} {c0 : Nat} {rb : Nat} {lo : Int} {u14 :  Value} {u15 :  Value} {u16 :  Value} {u17 :  Value} {u18 :  Value} {u19 :  Value} {u20 :  Value} {u21 :  Value} {u22 :  Value} {u23 :  Value} {u24 :  Value} {u25 :  Value} {u26 :  Value} {u27 :  Value} {u28 :  Value} {u29 :  Value} {u30 :  Value} {u31 :  Value} {u32 :  Value} {u33 :  Value} {u34 :  Value} {u35 :  Value} {u36 :  Value} {u37 :  Value} {u38 :  Value} {u39 :  Value} {u40 :  Value} {u41 :  Value} {u42 :  Value} {u43 :  Value} {u44 :  Value} {u45 :  Value} {u46 :  Value} {u47 :  Value} {u48 :  Value} {u49 :  Value} {u50 :  Value} {u51 :  Value} {u52 :  Value} {u53 :  Value} {u54 :  Value} {u55 :  Value} {u56 :  Value} {u57 :  Value} {u58 :  Value} {u59 :  Value} {u60 :  Value} {u61 :  Value} {u62 :  Value} {u63 :  Value} {u64 :  Value} {u65 :  Value} {u66 :  Value} {u67 :  Value} {u68 :  Value} {u69 :  Value} {u70 :  Value} {u71 :  Value} {u72 :  Value} {u73 :  Value} {u74 :  Value} {u75 :  Value} {u76 :  Value} {u77 :  Value} {u78 :  Value} {u79 :  Value} {u80 :  Value} {u81 :  Value} {u82 :  Value} {u83 :  Value} {u84 :  Value} {u85 :  Value} {u86 :  Value} {u87 :  Value} {u88 :  Value} {u89 :  Value} {u90 :  Value} {u91 :  Value} {u92 :  Value} {u93 :  Value} {u94 :  Value} {u95 :  Value} {u96 :  Value} {u97 :  Value} {u98 :  Value} {u99 :  Value} {u100 :  Value} {u101 :  Value} {u102 :  Value} {u103 :  Value} {u104 :  Value} {u105 :  Value} {u106 :  Value} {u107 :  Value} {u108 :  Value} {u109 :  Value} {u110 :  Value} {u111 :  Value} {u112 :  Value} {u113 :  Value} {u114 :  Value} {u115 :  Value} {u116 :  Value} {u117 :  Value} {u118 :  Value} {u119 :  Value} {u120 :  Value} {u121 :  Value} {u122 :  Value} {u123 :  Value} {u124 :  Value} {u125 :  Value} {u126 :  Value} {u127 :  Value} {u128 :  Value} {u129 :  Value} {u130 :  Value} {u131 :  Value} {u132 :  Value} {u133 :  Value} {u134 :  Value} {u135 :  Value} {u136 :  Value} {u137 :  Value} {u138 :  Value} {u139 :  Value} {u140 :  Value} {u141 :  Value} {u142 :  Value} {u143 :  Value} {u144 :  Value} {u145 :  Value} {u146 :  Value} {u147 :  Value} {u148 :  Value} {u149 :  Value} {u150 :  Value} {u151 :  Value} {u152 :  Value} {u153 :  Value} {u154 :  Value} {u155 :  Value} {u156 :  Value} {u157 :  Value} {u158 :  Value} {u159 :  Value} {u160 :  Value} {u161 :  Value} {u162 :  Value} {u163 :  Value} {u164 :  Value} {u165 :  Value} {u166 :  Value} {u167 :  Value} {u168 :  Value} {u169 :  Value} {u170 :  Value} {u171 :  Value} {u172 :  Value} {u173 :  Value} {u174 :  Value} {u175 :  Value} {u176 :  Value} {u177 :  Value} {u178 :  Value} {u179 :  Value} {u180 :  Value} {u181 :  Value} {u182 :  Value} {u183 :  Value} {hi : Int} {nm : ByteArray} {wo : World} {M1 : List Nat} {kb : Nat} {fv : Value} {fxs : List Value} {kxs : List Value}  {J_ K_ : Act → World → Prop} {Q_ : Exit → Act → World → Prop} {cd_ : Code} (hcd_ : cd_ = kmn_1_code) (_hn2 : n ≤ 2) (_lo0 : (0 : Int) ≤ lo) (_lo4 : lo ≤ (4 : Int)) (_hi1 : lo ≤ hi) (_hi2 : hi ≤ lo + (4 : Int)) (_hnm : Sg.kname n = nm) (H :  Hid (MkH K M1 ((kb, (49 : TypeId), #[Value.string nm, Value.int IntKind.i64 lo, Value.int IntKind.i64 hi, fv]) :: (rb, (49 : TypeId), #[Value.string { data := #[] }, Value.int IntKind.i64 (0 : Int), Value.int IntKind.i64 (0 : Int), Value.slice none 0 0]) :: bx) ({ e := (52 : TypeId), size := 8, v := fv, n := ([] : List Fld).length, xs := fxs } :: { e := (49 : TypeId), size := 4, v := Value.slice A0 n c0, n := n, xs := kxs } :: rs) ((fun M W => Flat M W ([] : List Fld) fxs) :: (fun M W => Flat M W ks kxs) :: L) wo))
    (hJ_ : ∀ (a' : Act) (w' : World), (∃ u14 u15 u16 u17 u18 u19 u20 u21 u22 u23 u24 u25 u26 u27 u28 u29 u30 u31 u32 u33 u34 u35 u36 u37 u38 u39 u40 u41 u42 u43 u44 u45 u46 u47 u48 u49 u50 u51 u52 u53 u54 u55 u56 u57 u58 u59 u60 u61 u62 u63 u64 u65 u66 u67 u68 u69 u70 u71 u72 u73 u74 u75 u76 u77 u78 u79 u80 u81 u82 u83 u84 u85 u86 u87 u88 u89 u90 u91 u92 u93 u94 u95 u96 u97 u98 u99 u100 u101 u102 u103 u104 u105 u106 u107 u108 u109 u110 u111 u112 u113 u114 u115 u116 u117 u118 u119 u120 u121 u122 u123 u124 u125 u126 u127 u128 u129 u130 u131 u132 u133 u134 u135 u136 u137 u138 u139 u140 u141 u142 u143 u144 u145 u146 u147 u148 u149 u150 u151 u152 u153 u154 u155 u156 u157 u158 u159 u160 u161 u162 u163 u164 u165 u166 u167 u168 u169 u170 u171 u172 u173 u174 u175 u176 u177 u178 u179 u180 u181 u182 u183, ((∃ x, Sg.okLo x ∧ KSt K bx rs L rb n (Value.slice A0 n c0) (Value.pointer (some (Addr.mk (kb) (0) none))) nm lo hi [Sg.idF x] ks w')) ∧ a' = ⟨(K.p :: (Value.slice A0 n c0) :: undef :: undef :: (Value.pointer (some (Addr.mk (rb) (0) none))) :: (Value.int IntKind.i64 (↑n : Int)) :: (Value.int IntKind.i64 lo) :: (Value.pointer (some (Addr.mk (kb) (0) none))) :: undef :: undef :: undef :: undef :: undef :: undef :: u14 :: u15 :: u16 :: u17 :: u18 :: u19 :: u20 :: u21 :: u22 :: u23 :: u24 :: u25 :: u26 :: u27 :: u28 :: u29 :: u30 :: u31 :: u32 :: u33 :: u34 :: u35 :: u36 :: u37 :: u38 :: u39 :: u40 :: u41 :: u42 :: u43 :: u44 :: u45 :: u46 :: u47 :: u48 :: u49 :: u50 :: u51 :: u52 :: u53 :: u54 :: u55 :: u56 :: u57 :: u58 :: u59 :: u60 :: u61 :: u62 :: u63 :: u64 :: u65 :: u66 :: u67 :: u68 :: u69 :: u70 :: u71 :: u72 :: u73 :: u74 :: u75 :: u76 :: u77 :: u78 :: u79 :: u80 :: u81 :: u82 :: u83 :: u84 :: u85 :: u86 :: u87 :: u88 :: u89 :: u90 :: u91 :: u92 :: u93 :: u94 :: u95 :: u96 :: u97 :: u98 :: u99 :: u100 :: u101 :: u102 :: u103 :: u104 :: u105 :: u106 :: u107 :: u108 :: u109 :: u110 :: u111 :: u112 :: u113 :: u114 :: u115 :: u116 :: u117 :: u118 :: u119 :: u120 :: u121 :: u122 :: u123 :: u124 :: u125 :: u126 :: u127 :: u128 :: u129 :: u130 :: u131 :: u132 :: u133 :: u134 :: u135 :: u136 :: u137 :: u138 :: u139 :: u140 :: u141 :: u142 :: u143 :: u144 :: u145 :: u146 :: u147 :: u148 :: u149 :: u150 :: u151 :: u152 :: u153 :: u154 :: u155 :: u156 :: u157 :: u158 :: u159 :: u160 :: u161 :: u162 :: u163 :: u164 :: u165 :: u166 :: u167 :: u168 :: u169 :: u170 :: u171 :: u172 :: u173 :: u174 :: u175 :: u176 :: u177 :: u178 :: u179 :: u180 :: u181 :: u182 :: u183 :: []).toArray, []⟩) → J_ a' w') (hM_ : ∀ (a' : Act) (w' : World), Met J_ a' w' → K_ a' w') :
    Code.wp Tryz.prog cd_ (Exit.then K_ Q_) ⟨(K.p :: (Value.slice A0 n c0) :: undef :: undef :: (Value.pointer (some (Addr.mk (rb) (0) none))) :: (Value.int IntKind.i64 (↑n : Int)) :: (Value.int IntKind.i64 lo) :: (Value.pointer (some (Addr.mk (kb) (0) none))) :: undef :: undef :: undef :: undef :: undef :: undef :: u14 :: u15 :: u16 :: u17 :: u18 :: u19 :: u20 :: u21 :: u22 :: u23 :: u24 :: u25 :: u26 :: u27 :: u28 :: u29 :: u30 :: u31 :: u32 :: u33 :: u34 :: u35 :: u36 :: u37 :: u38 :: u39 :: u40 :: u41 :: u42 :: u43 :: u44 :: u45 :: u46 :: u47 :: u48 :: u49 :: u50 :: u51 :: u52 :: u53 :: u54 :: u55 :: u56 :: u57 :: u58 :: u59 :: u60 :: u61 :: u62 :: u63 :: u64 :: u65 :: u66 :: u67 :: u68 :: u69 :: u70 :: u71 :: u72 :: u73 :: u74 :: u75 :: u76 :: u77 :: u78 :: u79 :: u80 :: u81 :: u82 :: u83 :: u84 :: u85 :: u86 :: u87 :: u88 :: u89 :: u90 :: u91 :: u92 :: u93 :: u94 :: u95 :: u96 :: u97 :: u98 :: u99 :: u100 :: u101 :: u102 :: u103 :: u104 :: u105 :: u106 :: u107 :: u108 :: u109 :: u110 :: u111 :: u112 :: u113 :: u114 :: u115 :: u116 :: u117 :: u118 :: u119 :: u120 :: u121 :: u122 :: u123 :: u124 :: u125 :: u126 :: u127 :: u128 :: u129 :: u130 :: u131 :: u132 :: u133 :: u134 :: u135 :: u136 :: u137 :: u138 :: u139 :: u140 :: u141 :: u142 :: u143 :: u144 :: u145 :: u146 :: u147 :: u148 :: u149 :: u150 :: u151 :: u152 :: u153 :: u154 :: u155 :: u156 :: u157 :: u158 :: u159 :: u160 :: u161 :: u162 :: u163 :: u164 :: u165 :: u166 :: u167 :: u168 :: u169 :: u170 :: u171 :: u172 :: u173 :: u174 :: u175 :: u176 :: u177 :: u178 :: u179 :: u180 :: u181 :: u182 :: u183 :: []).toArray, []⟩ wo := by
  subst hcd_
  conv => arg 2; whnf
  letI : Grow := K.grow
  apply RG.wp_region_typed (C := fun w' => K.R wo w') (n := 184) (m := 9) (l1 := [_, _, _, _, _, _, _, _, _]) (l2 := [_, _, _])
  · rfl
  · rfl
  · kernel_rfl
  · rfl
  · kernel_rfl
  · exact K.drew wo
  · exact fun u u' h hb => h.trans hb
  (apply RG.wpT_exact; · (intro w' hC hf; unfold RG.Gives; have q := (H.out.turn hC).box (.head _); have q0 := q.cell 0; have q3 := q.cell 3; (simp at q0 q3); clear q; clear hf hC; go_wp2_with (fail); apply RG.postT_val rfl (Grow.refl _); simp only [RG.valAt, Array.getD_eq_getD_getElem?, List.getElem?_toArray, List.getElem?_cons_succ, List.getElem?_cons_zero, Option.getD_some]; exact rfl)); (try simp only [Act.put, List.setIfInBounds_toArray, List.set_cons_zero, List.set_cons_succ])
  (apply RG.wpT_exact; · (intro w' hC hf; unfold RG.Gives; have q := (H.out.turn hC).box (.head _); have q0 := q.cell 0; have q3 := q.cell 3; (simp at q0 q3); clear q; clear hf hC; go_wp2_with (fail); apply RG.postT_val rfl (Grow.refl _); simp only [RG.valAt, Array.getD_eq_getD_getElem?, List.getElem?_toArray, List.getElem?_cons_succ, List.getElem?_cons_zero, Option.getD_some]; exact rfl)); (try simp only [Act.put, List.setIfInBounds_toArray, List.set_cons_zero, List.set_cons_succ])
  apply RG.wpT_typed (litT_kept K wo.heap.size 4 3 (fun cs => cs = #[.int .i64 0, .int .i64 1, .int .i64 100, .int .i64 (-3)]) H.out.gmLt)
  · intro w' hC hf; unfold RG.Gives; clear hf
    have hs := Lib.hid (K.size hC)
    clear hC
    go_wp2_with fail
    refine RG.postT_mk rfl (K.grown (by go_grown)) ?_; simp only [RG.valAt, Array.getD_eq_getD_getElem?, List.getElem?_toArray, List.getElem?_cons_succ, List.getElem?_cons_zero, Option.getD_some]
    exact ⟨_, _, rfl, rfl, hs.out, Blk.new _ _ _⟩
  intro v33; (try simp only [Act.put, List.setIfInBounds_toArray, List.set_cons_zero, List.set_cons_succ])
  (apply RG.wpT_exact; · (intro w' hC hf; unfold RG.Gives; clear hf hC; go_wp2_with (fail); apply RG.postT_val rfl (Grow.refl _); simp only [RG.valAt, Array.getD_eq_getD_getElem?, List.getElem?_toArray, List.getElem?_cons_succ, List.getElem?_cons_zero, Option.getD_some]; exact rfl)); (try simp only [Act.put, List.setIfInBounds_toArray, List.set_cons_zero, List.set_cons_succ])
  apply RG.wpT_typed (T := fun v _ => ∃ z : Nat, v = .int .i64 (z : Int) ∧ z < 4) (fun v w w' h _ => h)
  · intro w' hC hf; unfold RG.Gives; clear hf
    go_wp2_with fail
    go_at_call 26
    refine ((H.out.turn hC).take 4 (by omega) (by omega)).mono ?_
    rintro e w3 ⟨v, rfl, v1, v2, hr⟩
    obtain ⟨z, rfl⟩ : ∃ z' : Nat, v = z' := ⟨v.toNat, by omega⟩
    go_wp2_with fail
    refine RG.postT_mk rfl hr ?_; simp only [RG.valAt, Array.getD_eq_getD_getElem?, List.getElem?_toArray, List.getElem?_cons_succ, List.getElem?_cons_zero, Option.getD_some]; exact ⟨z, rfl, by omega⟩
  intro v35; (try simp only [Act.put, List.setIfInBounds_toArray, List.set_cons_zero, List.set_cons_succ])
  apply RG.wpT_typed (T := PtrT wo.heap.size 3 (fun cs i => ∃ x : Int, cs[i]? = some (.int .i64 x) ∧ Sg.okLo x)) (ptrT_kept K _ _ _ H.out.gmLt)
  · intro w' hC hf; unfold RG.Gives; obtain ⟨z, rfl, z1⟩ := hf.1 rfl; obtain ⟨cs, N, rfl, rfl, hge, hblk⟩ := hf.2.1 rfl; clear hf
    have k1 : (z : Int) < 4 := by omega
    go_wp2_with fail
    refine RG.postT_mk rfl (Grow.refl _) ?_; simp only [RG.valAt, Array.getD_eq_getD_getElem?, List.getElem?_toArray, List.getElem?_cons_succ, List.getElem?_cons_zero, Option.getD_some]; exact ⟨_, N, z, by first | rfl | simp [Addr.add], (by obtain ⟨x, h1, h2⟩ := ids_at z z1; exact ⟨x, h2, h1⟩), hge, hblk⟩
  intro v36; (try simp only [Act.put, List.setIfInBounds_toArray, List.set_cons_zero, List.set_cons_succ])
  apply RG.wpT_typed (T := fun v _ => ∃ x : Int, v = .int .i64 x ∧ Sg.okLo x) (fun v w w' h _ => h)
  · intro w' hC hf; unfold RG.Gives; obtain ⟨cs, N, i, rfl, ⟨x, hx, hok⟩, hge, hblk⟩ := hf.1 rfl; have q := hblk.cell i; rw [hx] at q; clear hC; clear hf
    go_wp2_with fail
    refine RG.postT_mk rfl (Grow.refl _) ?_; simp only [RG.valAt, Array.getD_eq_getD_getElem?, List.getElem?_toArray, List.getElem?_cons_succ, List.getElem?_cons_zero, Option.getD_some]; exact ⟨x, rfl, hok⟩
  intro v37; (try simp only [Act.put, List.setIfInBounds_toArray, List.set_cons_zero, List.set_cons_succ])
  apply RG.wpT_typed (T := fun v _ => ∃ x : Int, v = .agg #[.string Sg.bid, .string Sg.be, .string Sg.be, .int .i64 0, .int .i64 x, .int .i64 0, .slice none 0 0, .slice none 0 0] ∧ Sg.okLo x) (fun v w w' h _ => h)
  · intro w' hC hf; unfold RG.Gives; obtain ⟨x, rfl, hok⟩ := hf.1 rfl; clear hC; clear hf
    go_wp2_with fail
    refine RG.postT_mk rfl (Grow.refl _) ?_; simp only [RG.valAt, Array.getD_eq_getD_getElem?, List.getElem?_toArray, List.getElem?_cons_succ, List.getElem?_cons_zero, Option.getD_some]; exact ⟨x, rfl, hok⟩
  intro v38; (try simp only [Act.put, List.setIfInBounds_toArray, List.set_cons_zero, List.set_cons_succ])
  apply RG.wpT_typed (litT_kept K wo.heap.size 1 52 (fun cs => ∃ x : Int, cs = #[.string Sg.bid, .string Sg.be, .string Sg.be, .int .i64 0, .int .i64 x, .int .i64 0, .slice none 0 0, .slice none 0 0] ∧ Sg.okLo x) H.out.gmLt)
  · intro w' hC hf; unfold RG.Gives; obtain ⟨x, rfl, hok⟩ := hf.1 rfl; clear hf
    have hs := Lib.hid (K.size hC)
    clear hC
    go_wp2_with fail
    refine RG.postT_mk rfl (K.grown (by go_grown)) ?_; simp only [RG.valAt, Array.getD_eq_getD_getElem?, List.getElem?_toArray, List.getElem?_cons_succ, List.getElem?_cons_zero, Option.getD_some]
    exact ⟨_, _, rfl, ⟨x, rfl, hok⟩, hs.out, Blk.new _ _ _⟩
  intro v39; (try simp only [Act.put, List.setIfInBounds_toArray, List.set_cons_zero, List.set_cons_succ])
  apply RG.wpT_done
  intro w4 hC hall
  obtain ⟨cs, N2, rfl, ⟨x, rfl, hok⟩, hge, hblk⟩ := hall.1
  have T := Lib.hid (H.out.turn hC)
  have HX := Lib.hid hok
  obtain ⟨x1, x2⟩ := okLo_bd hok
  clear hall hC H this hok
  have hfl : ([] : List Fld).length ≤ 8 := (by simp)
  obtain ⟨i0, hI, hz0, hz1, hz2⟩ := info_parts infoFld
  refine wpList_append_mk (by rfl) _ _ 47 (by rfl) 52 i0 _ 8 120 Tryz.underlying47 hI hz0 hz1 hz2 rfl (by decide) T.out (by rfl) _ _ 1 1 [.string Sg.bid, .string Sg.be, .string Sg.be, .int .i64 0, .int .i64 x, .int .i64 0, .slice none 0 0, .slice none 0 0] (by rfl) (reads_blk hblk rfl) (by simp [Value.oneCell']) (by unfold maxLen; omega) (by omega) ?_
  intro v5 w5 M5 h5 _
  obtain ⟨A5, c5, rfl⟩ := h5.form
  have hq := h5.box (.head _); have f3 := hq.frozen 3; have q3 := hq.cell 3; (simp at q3); clear hq
  have T5 := Lib.hid (h5.putF (news := [Sg.idF x]) (Flat.single (fld_mk (by decide) (by decide) (by decide) (by unfold inI; omega) (by unfold inI; omega) (by unfold inI; omega) rep_nil rep_nil)))
  clear h5 hI hz0 hz1 hz2 hblk T hfl
  go_wp2_with fail
  go_meet
  case rel => exact ⟨x, HX.out, KSt.mk1 T5.out rfl⟩
end Go.Proofs.YtmplaikgbeeikaaGreatDoor
namespace Go.Proofs.YtmplaikgbeeikaaGreatDoor
open Go Go.RowKit
/-- Region 19 of the walk. -/
noncomputable def kmn_2_code : Code := ((Tryz.f27.body.bind (regAt 19)).getD .skip)
set_option maxRecDepth 1000000 in
set_option maxHeartbeats 100000000 in
theorem kmn_2 {K : MkK} {_M : List Nat} {bx : List Box} {rs : List Rw} {L : List (List Nat → World → Prop)} {_W : World} {ks : List Knd} {n : Nat} {c0 : Nat} {rb : Nat} {lo : Int} {hi : Int} {nm : ByteArray} {u8 :  Value} {u9 :  Value} {u10 :  Value} {u11 :  Value} {fs : List Fld} {ks' : List Knd} {u14 :  Value} {u15 :  Value} {u16 :  Value} {u17 :  Value} {u18 :  Value} {u19 :  Value} {u20 :  Value} {u21 :  Value} {u22 :  Value} {u23 :  Value} {u24 :  Value} {u25 :  Value} {u26 :  Value} {u27 :  Value} {u28 :  Value} {u29 :  Value} {u30 :  Value} {u31 :  Value} {u32 :  Value} {u33 :  Value} {u34 :  Value} {u35 :  Value} {u36 :  Value} {u37 :  Value} {u38 :  Value} {u39 :  Value} {u40 :  Value} {u41 :  Value} {u42 :  Value} {u43 :  Value} {u44 :  Value} {u45 :  Value} {u46 :  Value} {u47 :  Value} {u48 :  Value} {u49 :  Value} {u50 :  Value} {u51 :  Value} {u52 :  Value} {u53 :  Value} {u54 :  Value} {u55 :  Value} {u56 :  Value} {u57 :  Value} {u58 :  Value} {u59 :  Value} {u60 :  Value} {u61 :  Value} {u62 :  Value} {u63 :  Value} {u64 :  Value} {u65 :  Value} {u66 :  Value} {u67 :  Value} {u68 :  Value} {u69 :  Value} {u70 :  Value} {u71 :  Value} {u72 :  Value} {u73 :  Value} {u74 :  Value} {u75 :  Value} {u76 :  Value} {u77 :  Value} {u78 :  Value} {u79 :  Value} {u80 :  Value} {u81 :  Value} {u82 :  Value} {u83 :  Value} {u84 :  Value} {u85 :  Value} {u86 :  Value} {u87 :  Value} {u88 :  Value} {u89 :  Value} {u90 :  Value} {u91 :  Value} {u92 :  Value} {u93 :  Value} {u94 :  Value} {u95 :  Value} {u96 :  Value} {u97 :  Value} {u98 :  Value} {u99 :  Value} {u100 :  Value} {u101 :  Value} {u102 :  Value} {u103 :  Value} {u104 :  Value} {u105 :  Value} {u106 :  Value} {u107 :  Value} {u108 :  Value} {u109 :  Value} {u110 :  Value} {u111 :  Value} {u112 :  Value} {u113 :  Value} {u114 :  Value} {u115 :  Value} {u116 :  Value} {u117 :  Value} {u118 :  Value} {u119 :  Value} {u120 :  Value} {u121 :  Value} {u122 :  Value} {u123 :  Value} {u124 :  Value} {u125 :  Value} {u126 :  Value} {u127 :  Value} {u128 :  Value} {u129 :  Value} {u130 :  Value} {u131 :  Value} {u132 :  Value} {u133 :  Value} {u134 :  Value} {u135 :  Value} {u136 :  Value} {u137 :  Value} {u138 :  Value} {u139 :  Value} {u140 :  Value} {u141 :  Value} {u143 :  Value} {u144 :  Value} {u145 :  Value} {u146 :  Value} {u147 :  Value} {u148 :  Value} {u149 :  Value} {u150 :  Value} {u151 :  Value} {u152 :  Value} {u153 :  Value} {u154 :  Value} {u155 :  Value} {u156 :  Value} {u157 :  Value} {u158 :  Value} {u159 :  Value} {u160 :  Value} {u161 :  Value} {u162 :  Value} {u163 :  Value} {u164 :  Value} {u165 :  Value} {u166 :  Value} {u167 :  Value} {u168 :  Value} {u169 :  Value} {u170 :  Value} {u171 :  Value} {u172 :  Value} {u173 :  Value} {u174 :  Value} {u175 :  Value} {u176 :  Value} {u177 :  Value} {u178 :  Value} {u179 :  Value} {u180 :  Value} {u181 :  Value} {u182 :  Value} {u183 :  Value} {M1 : List Nat} {kb : Nat} {fv : Value} {fxs : List Value} {kxs : List Value} {g : Nat} {nmo : ByteArray} {wo : World}  {J_ K_ : Act → World → Prop} {Q_ : Exit → Act → World → Prop} {cd_ : Code} (hcd_ : cd_ = kmn_2_code) (hn2 : n ≤ 2) (HN : Hid (n = ks.length)) (_lo0 : (0 : Int) ≤ lo) (_lo4 : lo ≤ (4 : Int)) (_hi1 : lo ≤ hi) (_hi2 : hi ≤ lo + (4 : Int)) (_hnm : Sg.kname n = nm) (HFL : Hid (fs.length ≤ 4)) (hn1 : 2 ≤ n) (hn0 : 0 < n) (hzk : 0 < ks'.length) (s4 : nmo.size ≤ 9223372036854775807) (HNM : Hid (ks'[0].fst = nmo)) (HQ0 : Hid (kxs[0 * 4]? = some (Value.string nmo))) (_hb : True → 2 ≤ n) (H :  Hid (MkH K M1 ((kb, (49 : TypeId), #[Value.string nm, Value.int IntKind.i64 lo, Value.int IntKind.i64 hi, fv]) :: (rb, (49 : TypeId), #[Value.string { data := #[] }, Value.int IntKind.i64 (0 : Int), Value.int IntKind.i64 (0 : Int), Value.slice none 0 0]) :: bx) ({ e := (52 : TypeId), size := 8, v := fv, n := fs.length, xs := fxs } :: { e := (49 : TypeId), size := 4, v := Value.slice (some (Addr.mk (g) (0) none)) n c0, n := n, xs := kxs } :: rs) ((fun M W => Flat M W fs fxs) :: (fun M W => Flat M W ks' kxs) :: L) wo))
    (hJ_ : ∀ (a' : Act) (w' : World), (∃ u14 u15 u16 u17 u18 u19 u20 u21 u22 u23 u24 u25 u26 u27 u28 u29 u30 u31 u32 u33 u34 u35 u36 u37 u38 u39 u40 u41 u42 u43 u44 u45 u46 u47 u48 u49 u50 u51 u52 u53 u54 u55 u56 u57 u58 u59 u60 u61 u62 u63 u64 u65 u66 u67 u68 u69 u70 u71 u72 u73 u74 u75 u76 u77 u78 u79 u80 u81 u82 u83 u84 u85 u86 u87 u88 u89 u90 u91 u92 u93 u94 u95 u96 u97 u98 u99 u100 u101 u102 u103 u104 u105 u106 u107 u108 u109 u110 u111 u112 u113 u114 u115 u116 u117 u118 u119 u120 u121 u122 u123 u124 u125 u126 u127 u128 u129 u130 u131 u132 u133 u134 u135 u136 u137 u138 u139 u140 u141 u142 u143 u144 u145 u146 u147 u148 u149 u150 u151 u152 u153 u154 u155 u156 u157 u158 u159 u160 u161 u162 u163 u164 u165 u166 u167 u168 u169 u170 u171 u172 u173 u174 u175 u176 u177 u178 u179 u180 u181 u182 u183, ((∃ by_, Sg.By ks ks' by_ ∧ KSt K bx rs L rb n (Value.slice (some (Addr.mk (g) (0) none)) n c0) (Value.pointer (some (Addr.mk (kb) (0) none))) nm lo hi (fs ++ by_) ks' w')) ∧ a' = ⟨(K.p :: (Value.slice (some (Addr.mk (g) (0) none)) n c0) :: undef :: undef :: (Value.pointer (some (Addr.mk (rb) (0) none))) :: (Value.int IntKind.i64 (↑n : Int)) :: (Value.int IntKind.i64 lo) :: (Value.pointer (some (Addr.mk (kb) (0) none))) :: u8 :: u9 :: u10 :: u11 :: undef :: undef :: u14 :: u15 :: u16 :: u17 :: u18 :: u19 :: u20 :: u21 :: u22 :: u23 :: u24 :: u25 :: u26 :: u27 :: u28 :: u29 :: u30 :: u31 :: u32 :: u33 :: u34 :: u35 :: u36 :: u37 :: u38 :: u39 :: u40 :: u41 :: u42 :: u43 :: u44 :: u45 :: u46 :: u47 :: u48 :: u49 :: u50 :: u51 :: u52 :: u53 :: u54 :: u55 :: u56 :: u57 :: u58 :: u59 :: u60 :: u61 :: u62 :: u63 :: u64 :: u65 :: u66 :: u67 :: u68 :: u69 :: u70 :: u71 :: u72 :: u73 :: u74 :: u75 :: u76 :: u77 :: u78 :: u79 :: u80 :: u81 :: u82 :: u83 :: u84 :: u85 :: u86 :: u87 :: u88 :: u89 :: u90 :: u91 :: u92 :: u93 :: u94 :: u95 :: u96 :: u97 :: u98 :: u99 :: u100 :: u101 :: u102 :: u103 :: u104 :: u105 :: u106 :: u107 :: u108 :: u109 :: u110 :: u111 :: u112 :: u113 :: u114 :: u115 :: u116 :: u117 :: u118 :: u119 :: u120 :: u121 :: u122 :: u123 :: u124 :: u125 :: u126 :: u127 :: u128 :: u129 :: u130 :: u131 :: u132 :: u133 :: u134 :: u135 :: u136 :: u137 :: u138 :: u139 :: u140 :: u141 :: u142 :: u143 :: u144 :: u145 :: u146 :: u147 :: u148 :: u149 :: u150 :: u151 :: u152 :: u153 :: u154 :: u155 :: u156 :: u157 :: u158 :: u159 :: u160 :: u161 :: u162 :: u163 :: u164 :: u165 :: u166 :: u167 :: u168 :: u169 :: u170 :: u171 :: u172 :: u173 :: u174 :: u175 :: u176 :: u177 :: u178 :: u179 :: u180 :: u181 :: u182 :: u183 :: []).toArray, []⟩) → J_ a' w') (hM_ : ∀ (a' : Act) (w' : World), Met J_ a' w' → K_ a' w') :
    Code.wp Tryz.prog cd_ (Exit.then K_ Q_) ⟨(K.p :: (Value.slice (some (Addr.mk (g) (0) none)) n c0) :: undef :: undef :: (Value.pointer (some (Addr.mk (rb) (0) none))) :: (Value.int IntKind.i64 (↑n : Int)) :: (Value.int IntKind.i64 lo) :: (Value.pointer (some (Addr.mk (kb) (0) none))) :: u8 :: u9 :: u10 :: u11 :: undef :: undef :: u14 :: u15 :: u16 :: u17 :: u18 :: u19 :: u20 :: u21 :: u22 :: u23 :: u24 :: u25 :: u26 :: u27 :: u28 :: u29 :: u30 :: u31 :: u32 :: u33 :: u34 :: u35 :: u36 :: u37 :: u38 :: u39 :: u40 :: u41 :: u42 :: u43 :: u44 :: u45 :: u46 :: u47 :: u48 :: u49 :: u50 :: u51 :: u52 :: u53 :: u54 :: u55 :: u56 :: u57 :: u58 :: u59 :: u60 :: u61 :: u62 :: u63 :: u64 :: u65 :: u66 :: u67 :: u68 :: u69 :: u70 :: u71 :: u72 :: u73 :: u74 :: u75 :: u76 :: u77 :: u78 :: u79 :: u80 :: u81 :: u82 :: u83 :: u84 :: u85 :: u86 :: u87 :: u88 :: u89 :: u90 :: u91 :: u92 :: u93 :: u94 :: u95 :: u96 :: u97 :: u98 :: u99 :: u100 :: u101 :: u102 :: u103 :: u104 :: u105 :: u106 :: u107 :: u108 :: u109 :: u110 :: u111 :: u112 :: u113 :: u114 :: u115 :: u116 :: u117 :: u118 :: u119 :: u120 :: u121 :: u122 :: u123 :: u124 :: u125 :: u126 :: u127 :: u128 :: u129 :: u130 :: u131 :: u132 :: u133 :: u134 :: u135 :: u136 :: u137 :: u138 :: u139 :: u140 :: u141 :: (Value.bool true) :: u143 :: u144 :: u145 :: u146 :: u147 :: u148 :: u149 :: u150 :: u151 :: u152 :: u153 :: u154 :: u155 :: u156 :: u157 :: u158 :: u159 :: u160 :: u161 :: u162 :: u163 :: u164 :: u165 :: u166 :: u167 :: u168 :: u169 :: u170 :: u171 :: u172 :: u173 :: u174 :: u175 :: u176 :: u177 :: u178 :: u179 :: u180 :: u181 :: u182 :: u183 :: []).toArray, []⟩ wo := by
  subst hcd_
  conv => arg 2; whnf
  letI : Grow := K.grow
  apply RG.wp_region_typed (C := fun w' => K.R wo w') (n := 184) (m := 8) (l1 := [_, _, _, _, _, _, _, _]) (l2 := [_, _, _])
  · rfl
  · rfl
  · kernel_rfl
  · rfl
  · kernel_rfl
  · exact K.drew wo
  · exact fun u u' h hb => h.trans hb
  (apply RG.wpT_exact; · (intro w' hC hf; unfold RG.Gives; have q := (H.out.turn hC).box (.head _); have q3 := q.cell 3; (simp at q3); clear q; clear hf hC; go_wp2_with (fail); apply RG.postT_val rfl (Grow.refl _); simp only [RG.valAt, Array.getD_eq_getD_getElem?, List.getElem?_toArray, List.getElem?_cons_succ, List.getElem?_cons_zero, Option.getD_some]; exact rfl)); (try simp only [Act.put, List.setIfInBounds_toArray, List.set_cons_zero, List.set_cons_succ])
  (apply RG.wpT_exact; · (intro w' hC hf; unfold RG.Gives; have q := (H.out.turn hC).box (.head _); have q3 := q.cell 3; (simp at q3); clear q; clear hf hC; go_wp2_with (fail); apply RG.postT_val rfl (Grow.refl _); simp only [RG.valAt, Array.getD_eq_getD_getElem?, List.getElem?_toArray, List.getElem?_cons_succ, List.getElem?_cons_zero, Option.getD_some]; exact rfl)); (try simp only [Act.put, List.setIfInBounds_toArray, List.set_cons_zero, List.set_cons_succ])
  (apply RG.wpT_exact; · (intro w' hC hf; unfold RG.Gives; clear hf hC; go_wp2_with (fail); apply RG.postT_val rfl (Grow.refl _); simp only [RG.valAt, Array.getD_eq_getD_getElem?, List.getElem?_toArray, List.getElem?_cons_succ, List.getElem?_cons_zero, Option.getD_some]; exact rfl)); (try simp only [Act.put, List.setIfInBounds_toArray, List.set_cons_zero, List.set_cons_succ])
  (apply RG.wpT_exact; · (intro w' hC hf; unfold RG.Gives; clear hf hC; go_wp2_with (fail); apply RG.postT_val rfl (Grow.refl _); simp only [RG.valAt, Array.getD_eq_getD_getElem?, List.getElem?_toArray, List.getElem?_cons_succ, List.getElem?_cons_zero, Option.getD_some]; exact rfl)); (try simp only [Act.put, List.setIfInBounds_toArray, List.set_cons_zero, List.set_cons_succ])
  (apply RG.wpT_exact; · (intro w' hC hf; unfold RG.Gives; clear hf hC; go_wp2_with (fail); apply RG.postT_val rfl (Grow.refl _); simp only [RG.valAt, Array.getD_eq_getD_getElem?, List.getElem?_toArray, List.getElem?_cons_succ, List.getElem?_cons_zero, Option.getD_some]; exact rfl)); (try simp only [Act.put, List.setIfInBounds_toArray, List.set_cons_zero, List.set_cons_succ])
  (apply RG.wpT_exact; · (intro w' hC hf; unfold RG.Gives; have q := (H.out.turn hC).rcell (.tail _ (.head _)) hn0 HQ0.out; (try simp at q); clear hf hC; go_wp2_with (fail); apply RG.postT_val rfl (Grow.refl _); simp only [RG.valAt, Array.getD_eq_getD_getElem?, List.getElem?_toArray, List.getElem?_cons_succ, List.getElem?_cons_zero, Option.getD_some]; exact rfl)); (try simp only [Act.put, List.setIfInBounds_toArray, List.set_cons_zero, List.set_cons_succ])
  (apply RG.wpT_exact; · (intro w' hC hf; unfold RG.Gives; clear hf hC; go_wp2_with (fail); apply RG.postT_val rfl (Grow.refl _); simp only [RG.valAt, Array.getD_eq_getD_getElem?, List.getElem?_toArray, List.getElem?_cons_succ, List.getElem?_cons_zero, Option.getD_some]; exact rfl)); (try simp only [Act.put, List.setIfInBounds_toArray, List.set_cons_zero, List.set_cons_succ])
  apply RG.wpT_typed (litT_kept K wo.heap.size 1 52 (fun cs => cs = #[.string Sg.bby, .string nmo, .string Sg.be, .int .i64 1, .int .i64 0, .int .i64 8, .slice none 0 0, .slice none 0 0]) H.out.gmLt)
  · intro w' hC hf; unfold RG.Gives; clear hf
    have hs := Lib.hid (K.size hC)
    clear hC
    go_wp2_with fail
    refine RG.postT_mk rfl (K.grown (by go_grown)) ?_; simp only [RG.valAt, Array.getD_eq_getD_getElem?, List.getElem?_toArray, List.getElem?_cons_succ, List.getElem?_cons_zero, Option.getD_some]
    exact ⟨_, _, rfl, rfl, hs.out, Blk.new _ _ _⟩
  intro v150; (try simp only [Act.put, List.setIfInBounds_toArray, List.set_cons_zero, List.set_cons_succ])
  apply RG.wpT_done
  intro w4 hC hall
  obtain ⟨cs, N2, rfl, rfl, hge, hblk⟩ := hall.1
  have T := Lib.hid (H.out.turn hC)
  clear hall hC H this
  have hfl : (fs : List Fld).length ≤ 8 := by have := HFL.out; omega
  obtain ⟨i0, hI, hz0, hz1, hz2⟩ := info_parts infoFld
  refine wpList_append_mk (by rfl) _ _ 47 (by rfl) 52 i0 _ 8 120 Tryz.underlying47 hI hz0 hz1 hz2 rfl (by decide) T.out (by rfl) _ _ 1 1 [.string Sg.bby, .string nmo, .string Sg.be, .int .i64 1, .int .i64 0, .int .i64 8, .slice none 0 0, .slice none 0 0] (by rfl) (reads_blk hblk rfl) (by simp [Value.oneCell']) (by unfold maxLen; omega) (by omega) ?_
  intro v5 w5 M5 h5 _
  obtain ⟨A5, c5, rfl⟩ := h5.form
  have hq := h5.box (.head _); have f3 := hq.frozen 3; have q3 := hq.cell 3; (simp at q3); clear hq
  have T5 := Lib.hid (h5.putF (news := [Sg.byF nmo]) (Flat.single (fld_mk (by decide) s4 (by decide) (by unfold inI; omega) (by unfold inI; omega) (by unfold inI; omega) rep_nil rep_nil)))
  clear h5 hI hz0 hz1 hz2 hblk T hfl
  go_wp2_with fail
  go_meet
  case rel =>
    refine ⟨[Sg.byF nmo], .inr ⟨?_, ks'[0], List.getElem?_eq_getElem hzk, by rw [HNM.out]⟩, KSt.mk1 T5.out rfl⟩
    have := HN.out
    omega
end Go.Proofs.YtmplaikgbeeikaaGreatDoor
namespace Go.Proofs.YtmplaikgbeeikaaGreatDoor
open Go Go.RowKit
/-- Region 24 of the walk. -/
noncomputable def kmn_3_code : Code := ((Tryz.f27.body.bind (regAt 24)).getD .skip)
set_option maxRecDepth 1000000 in
set_option maxHeartbeats 100000000 in
theorem kmn_3 {K : MkK} {_M : List Nat} {bx : List Box} {rs : List Rw} {L : List (List Nat → World → Prop)} {_W : World} {n : Nat} {A0 : Option Addr} {c0 : Nat} {rb : Nat} {lo : Int} {hi : Int} {nm : ByteArray} {u8 :  Value} {u9 :  Value} {u10 :  Value} {u11 :  Value} {ks' : List Knd} {_b : Bool} {fs3 : List Fld} {kb : Nat} {m0 : Nat} {u12 :  Value} {u14 :  Value} {u15 :  Value} {u16 :  Value} {u17 :  Value} {u18 :  Value} {u19 :  Value} {u20 :  Value} {u21 :  Value} {u22 :  Value} {u23 :  Value} {u24 :  Value} {u25 :  Value} {u26 :  Value} {u27 :  Value} {u28 :  Value} {u29 :  Value} {u30 :  Value} {u31 :  Value} {u32 :  Value} {u33 :  Value} {u34 :  Value} {u35 :  Value} {u36 :  Value} {u37 :  Value} {u38 :  Value} {u39 :  Value} {u40 :  Value} {u41 :  Value} {u42 :  Value} {u43 :  Value} {u44 :  Value} {u45 :  Value} {u46 :  Value} {u47 :  Value} {u48 :  Value} {u49 :  Value} {u50 :  Value} {u51 :  Value} {u52 :  Value} {u53 :  Value} {u54 :  Value} {u55 :  Value} {u56 :  Value} {u57 :  Value} {u58 :  Value} {u59 :  Value} {u60 :  Value} {u61 :  Value} {u62 :  Value} {u63 :  Value} {u64 :  Value} {u65 :  Value} {u66 :  Value} {u67 :  Value} {u68 :  Value} {u69 :  Value} {u70 :  Value} {u71 :  Value} {u72 :  Value} {u73 :  Value} {u74 :  Value} {u75 :  Value} {u76 :  Value} {u77 :  Value} {u78 :  Value} {u79 :  Value} {u80 :  Value} {u81 :  Value} {u82 :  Value} {u83 :  Value} {u84 :  Value} {u85 :  Value} {u86 :  Value} {u87 :  Value} {u88 :  Value} {u89 :  Value} {u90 :  Value} {u91 :  Value} {u92 :  Value} {u93 :  Value} {u94 :  Value} {u95 :  Value} {u96 :  Value} {u97 :  Value} {u98 :  Value} {u99 :  Value} {u100 :  Value} {u101 :  Value} {u102 :  Value} {u103 :  Value} {u104 :  Value} {u105 :  Value} {u106 :  Value} {u107 :  Value} {u108 :  Value} {u109 :  Value} {u110 :  Value} {u111 :  Value} {u112 :  Value} {u113 :  Value} {u114 :  Value} {u115 :  Value} {u116 :  Value} {u117 :  Value} {u118 :  Value} {u119 :  Value} {u120 :  Value} {u121 :  Value} {u122 :  Value} {u123 :  Value} {u124 :  Value} {u125 :  Value} {u126 :  Value} {u127 :  Value} {u128 :  Value} {u129 :  Value} {u130 :  Value} {u131 :  Value} {u132 :  Value} {u133 :  Value} {u134 :  Value} {u135 :  Value} {u136 :  Value} {u137 :  Value} {u138 :  Value} {u139 :  Value} {u140 :  Value} {u141 :  Value} {u142 :  Value} {u143 :  Value} {u144 :  Value} {u145 :  Value} {u146 :  Value} {u147 :  Value} {u148 :  Value} {u149 :  Value} {u150 :  Value} {u151 :  Value} {u152 :  Value} {u153 :  Value} {u154 :  Value} {u155 :  Value} {u156 :  Value} {u157 :  Value} {u158 :  Value} {u159 :  Value} {u165 :  Value} {u166 :  Value} {u167 :  Value} {u168 :  Value} {u169 :  Value} {u170 :  Value} {u171 :  Value} {u172 :  Value} {u173 :  Value} {u174 :  Value} {u175 :  Value} {u176 :  Value} {u177 :  Value} {u178 :  Value} {u179 :  Value} {u180 :  Value} {u181 :  Value} {u182 :  Value} {u183 :  Value} {fs4 : List Fld} {fxs : List Value} {kxs : List Value} {c1 : Nat} {M2 : List Nat} {f : Fld} {r : List Fld} {b1 : Nat} {o1 : Nat} {A4 : Option Addr} {c4 : Nat} {nmf : ByteArray} {x4 : Int} {wo : World}  {J_ K_ : Act → World → Prop} {Q_ : Exit → Act → World → Prop} {cd_ : Code} (hcd_ : cd_ = kmn_3_code) (_hn2 : n ≤ 2) (_lo0 : (0 : Int) ≤ lo) (_lo4 : lo ≤ (4 : Int)) (_hi1 : lo ≤ hi) (_hi2 : hi ≤ lo + (4 : Int)) (_hnm : Sg.kname n = nm) (_hm3 : fs3.length ≤ 5) (_hml : m0 ≤ 2) (HFL4 : Hid (fs4.length ≤ 7)) (_v1 : (0 : Int) ≤ (0 : Int)) (_v2 : (0 : Int) < (2 : Int)) (_pc2 : c1 ≤ 9223372036854775807) (_pc1 : r.length + 1 ≤ c1) (_hml2 : r.length + 1 ≤ 2) (_t1 : decide ((0 : Int) < (↑(r.length + 1) : Int)) = true) (HNF : Hid (Sc.nm f = nmf)) (HX4 : Hid (Sc.ix (Sc.named nmf) fs4 = x4)) (H :  Hid (MkH K M2 ((kb, (49 : TypeId), #[Value.string nm, Value.int IntKind.i64 lo, Value.int IntKind.i64 hi, Value.slice A4 fs4.length c4]) :: (rb, (49 : TypeId), #[Value.string { data := #[] }, Value.int IntKind.i64 (0 : Int), Value.int IntKind.i64 (0 : Int), Value.slice none 0 0]) :: bx) ({ e := (52 : TypeId), size := 8, v := Value.slice A4 fs4.length c4, n := fs4.length, xs := fxs } :: { e := (49 : TypeId), size := 4, v := Value.slice A0 n c0, n := n, xs := kxs } :: rs) ((fun M W => SlAt M W (some (Addr.mk (b1) (o1) none)) (f :: r)) :: (fun M W => Flat M W fs4 fxs) :: (fun M W => Flat M W ks' kxs) :: L) wo))
    (hJ_ : ∀ (a' : Act) (w' : World), (∃ u14 u15 u16 u17 u18 u19 u20 u21 u22 u23 u24 u25 u26 u27 u28 u29 u30 u31 u32 u33 u34 u35 u36 u37 u38 u39 u40 u41 u42 u43 u44 u45 u46 u47 u48 u49 u50 u51 u52 u53 u54 u55 u56 u57 u58 u59 u60 u61 u62 u63 u64 u65 u66 u67 u68 u69 u70 u71 u72 u73 u74 u75 u76 u77 u78 u79 u80 u81 u82 u83 u84 u85 u86 u87 u88 u89 u90 u91 u92 u93 u94 u95 u96 u97 u98 u99 u100 u101 u102 u103 u104 u105 u106 u107 u108 u109 u110 u111 u112 u113 u114 u115 u116 u117 u118 u119 u120 u121 u122 u123 u124 u125 u126 u127 u128 u129 u130 u131 u132 u133 u134 u135 u136 u137 u138 u139 u140 u141 u142 u143 u144 u145 u146 u147 u148 u149 u150 u151 u152 u153 u154 u155 u156 u157 u158 u159 u160 u161 u162 u163 u164 u165 u166 u167 u168 u169 u170 u171 u172 u173 u174 u175 u176 u177 u178 u179 u180 u181 u182 u183, ((∃ b, u177 = Value.bool b ∧ (b = true → ∃ f_1 r_1, f :: r = f_1 :: r_1 ∧ Sc.ix (Sc.named (Sc.nm f_1)) fs4 < (0 : Int)) ∧ ∃ M, MkH K M ((kb, (49 : TypeId), #[Value.string nm, Value.int IntKind.i64 lo, Value.int IntKind.i64 hi, Value.slice A4 fs4.length c4]) :: (rb, (49 : TypeId), #[Value.string { data := #[] }, Value.int IntKind.i64 (0 : Int), Value.int IntKind.i64 (0 : Int), Value.slice none 0 0]) :: bx) ({ e := (52 : TypeId), size := 8, v := Value.slice A4 fs4.length c4, n := fs4.length, xs := fxs } :: { e := (49 : TypeId), size := 4, v := Value.slice A0 n c0, n := n, xs := kxs } :: rs) ((fun M W => SlAt M W (some (Addr.mk (b1) (o1) none)) (f :: r)) :: (fun M W => Flat M W fs4 fxs) :: (fun M W => Flat M W ks' kxs) :: L) w')) ∧ a' = ⟨(K.p :: (Value.slice A0 n c0) :: undef :: undef :: (Value.pointer (some (Addr.mk (rb) (0) none))) :: (Value.int IntKind.i64 (↑n : Int)) :: (Value.int IntKind.i64 lo) :: (Value.pointer (some (Addr.mk (kb) (0) none))) :: u8 :: u9 :: u10 :: u11 :: u12 :: (Value.slice (some (Addr.mk (b1) (o1) none)) (r.length + 1) c1) :: u14 :: u15 :: u16 :: u17 :: u18 :: u19 :: u20 :: u21 :: u22 :: u23 :: u24 :: u25 :: u26 :: u27 :: u28 :: u29 :: u30 :: u31 :: u32 :: u33 :: u34 :: u35 :: u36 :: u37 :: u38 :: u39 :: u40 :: u41 :: u42 :: u43 :: u44 :: u45 :: u46 :: u47 :: u48 :: u49 :: u50 :: u51 :: u52 :: u53 :: u54 :: u55 :: u56 :: u57 :: u58 :: u59 :: u60 :: u61 :: u62 :: u63 :: u64 :: u65 :: u66 :: u67 :: u68 :: u69 :: u70 :: u71 :: u72 :: u73 :: u74 :: u75 :: u76 :: u77 :: u78 :: u79 :: u80 :: u81 :: u82 :: u83 :: u84 :: u85 :: u86 :: u87 :: u88 :: u89 :: u90 :: u91 :: u92 :: u93 :: u94 :: u95 :: u96 :: u97 :: u98 :: u99 :: u100 :: u101 :: u102 :: u103 :: u104 :: u105 :: u106 :: u107 :: u108 :: u109 :: u110 :: u111 :: u112 :: u113 :: u114 :: u115 :: u116 :: u117 :: u118 :: u119 :: u120 :: u121 :: u122 :: u123 :: u124 :: u125 :: u126 :: u127 :: u128 :: u129 :: u130 :: u131 :: u132 :: u133 :: u134 :: u135 :: u136 :: u137 :: u138 :: u139 :: u140 :: u141 :: u142 :: u143 :: u144 :: u145 :: u146 :: u147 :: u148 :: u149 :: u150 :: u151 :: u152 :: u153 :: u154 :: u155 :: u156 :: u157 :: u158 :: u159 :: u160 :: u161 :: u162 :: u163 :: u164 :: u165 :: u166 :: u167 :: u168 :: u169 :: u170 :: u171 :: u172 :: u173 :: u174 :: u175 :: u176 :: u177 :: u178 :: u179 :: u180 :: u181 :: u182 :: u183 :: []).toArray, []⟩) → J_ a' w') (hM_ : ∀ (a' : Act) (w' : World), Met J_ a' w' → K_ a' w') :
    Code.wp Tryz.prog cd_ (Exit.then K_ Q_) ⟨(K.p :: (Value.slice A0 n c0) :: undef :: undef :: (Value.pointer (some (Addr.mk (rb) (0) none))) :: (Value.int IntKind.i64 (↑n : Int)) :: (Value.int IntKind.i64 lo) :: (Value.pointer (some (Addr.mk (kb) (0) none))) :: u8 :: u9 :: u10 :: u11 :: u12 :: (Value.slice (some (Addr.mk (b1) (o1) none)) (r.length + 1) c1) :: u14 :: u15 :: u16 :: u17 :: u18 :: u19 :: u20 :: u21 :: u22 :: u23 :: u24 :: u25 :: u26 :: u27 :: u28 :: u29 :: u30 :: u31 :: u32 :: u33 :: u34 :: u35 :: u36 :: u37 :: u38 :: u39 :: u40 :: u41 :: u42 :: u43 :: u44 :: u45 :: u46 :: u47 :: u48 :: u49 :: u50 :: u51 :: u52 :: u53 :: u54 :: u55 :: u56 :: u57 :: u58 :: u59 :: u60 :: u61 :: u62 :: u63 :: u64 :: u65 :: u66 :: u67 :: u68 :: u69 :: u70 :: u71 :: u72 :: u73 :: u74 :: u75 :: u76 :: u77 :: u78 :: u79 :: u80 :: u81 :: u82 :: u83 :: u84 :: u85 :: u86 :: u87 :: u88 :: u89 :: u90 :: u91 :: u92 :: u93 :: u94 :: u95 :: u96 :: u97 :: u98 :: u99 :: u100 :: u101 :: u102 :: u103 :: u104 :: u105 :: u106 :: u107 :: u108 :: u109 :: u110 :: u111 :: u112 :: u113 :: u114 :: u115 :: u116 :: u117 :: u118 :: u119 :: u120 :: u121 :: u122 :: u123 :: u124 :: u125 :: u126 :: u127 :: u128 :: u129 :: u130 :: u131 :: u132 :: u133 :: u134 :: u135 :: u136 :: u137 :: u138 :: u139 :: u140 :: u141 :: u142 :: u143 :: u144 :: u145 :: u146 :: u147 :: u148 :: u149 :: u150 :: u151 :: u152 :: u153 :: u154 :: u155 :: u156 :: u157 :: u158 :: u159 :: K.p :: (Value.int IntKind.i64 (0 : Int)) :: (Value.bool true) :: K.p :: (Value.slice (some (Addr.mk (b1) (o1) none)) (r.length + 1) c1) :: u165 :: u166 :: u167 :: u168 :: u169 :: u170 :: u171 :: u172 :: u173 :: u174 :: u175 :: u176 :: u177 :: u178 :: u179 :: u180 :: u181 :: u182 :: u183 :: []).toArray, []⟩ wo := by
  subst hcd_
  conv => arg 2; whnf
  letI : Grow := K.grow
  apply RG.wp_region_typed (C := fun w' => K.R wo w') (n := 184) (m := 13) (l1 := [_, _, _, _, _, _, _, _, _, _, _, _, _]) (l2 := [])
  · rfl
  · rfl
  · kernel_rfl
  · rfl
  · kernel_rfl
  · exact K.drew wo
  · exact fun u u' h hb => h.trans hb
  (apply RG.wpT_exact; · (intro w' hC hf; unfold RG.Gives; clear hf hC; go_wp2_with (fail); apply RG.postT_val rfl (Grow.refl _); simp only [RG.valAt, Array.getD_eq_getD_getElem?, List.getElem?_toArray, List.getElem?_cons_succ, List.getElem?_cons_zero, Option.getD_some]; exact rfl)); (try simp only [Act.put, List.setIfInBounds_toArray, List.set_cons_zero, List.set_cons_succ])
  (apply RG.wpT_exact; · (intro w' hC hf; unfold RG.Gives; clear hf hC; go_wp2_with (fail); apply RG.postT_val rfl (Grow.refl _); simp only [RG.valAt, Array.getD_eq_getD_getElem?, List.getElem?_toArray, List.getElem?_cons_succ, List.getElem?_cons_zero, Option.getD_some]; exact rfl)); (try simp only [Act.put, List.setIfInBounds_toArray, List.set_cons_zero, List.set_cons_succ])
  (apply RG.wpT_exact; · (intro w' hC hf; unfold RG.Gives; clear hf hC; go_wp2_with (fail); apply RG.postT_val rfl (Grow.refl _); simp only [RG.valAt, Array.getD_eq_getD_getElem?, List.getElem?_toArray, List.getElem?_cons_succ, List.getElem?_cons_zero, Option.getD_some]; exact rfl)); (try simp only [Act.put, List.setIfInBounds_toArray, List.set_cons_zero, List.set_cons_succ])
  (apply RG.wpT_exact; · (intro w' hC hf; unfold RG.Gives; clear hf hC; go_wp2_with (fail); apply RG.postT_val rfl (Grow.refl _); simp only [RG.valAt, Array.getD_eq_getD_getElem?, List.getElem?_toArray, List.getElem?_cons_succ, List.getElem?_cons_zero, Option.getD_some]; exact rfl)); (try simp only [Act.put, List.setIfInBounds_toArray, List.set_cons_zero, List.set_cons_succ])
  (apply RG.wpT_exact; · (intro w' hC hf; unfold RG.Gives; clear hf hC; go_wp2_with (fail); apply RG.postT_val rfl (Grow.refl _); simp only [RG.valAt, Array.getD_eq_getD_getElem?, List.getElem?_toArray, List.getElem?_cons_succ, List.getElem?_cons_zero, Option.getD_some]; exact rfl)); (try simp only [Act.put, List.setIfInBounds_toArray, List.set_cons_zero, List.set_cons_succ])
  (apply RG.wpT_exact; · (intro w' hC hf; unfold RG.Gives; have q := (H.out.turn hC).box (.head _); have q3 := q.cell 3; (simp at q3); clear q; clear hf hC; go_wp2_with (fail); apply RG.postT_val rfl (Grow.refl _); simp only [RG.valAt, Array.getD_eq_getD_getElem?, List.getElem?_toArray, List.getElem?_cons_succ, List.getElem?_cons_zero, Option.getD_some]; exact rfl)); (try simp only [Act.put, List.setIfInBounds_toArray, List.set_cons_zero, List.set_cons_succ])
  (apply RG.wpT_exact; · (intro w' hC hf; unfold RG.Gives; clear hf hC; go_wp2_with (fail); apply RG.postT_val rfl (Grow.refl _); simp only [RG.valAt, Array.getD_eq_getD_getElem?, List.getElem?_toArray, List.getElem?_cons_succ, List.getElem?_cons_zero, Option.getD_some]; exact rfl)); (try simp only [Act.put, List.setIfInBounds_toArray, List.set_cons_zero, List.set_cons_succ])
  (apply RG.wpT_exact; · (intro w' hC hf; unfold RG.Gives; clear hf hC; go_wp2_with (fail); apply RG.postT_val rfl (Grow.refl _); simp only [RG.valAt, Array.getD_eq_getD_getElem?, List.getElem?_toArray, List.getElem?_cons_succ, List.getElem?_cons_zero, Option.getD_some]; exact rfl)); (try simp only [Act.put, List.setIfInBounds_toArray, List.set_cons_zero, List.set_cons_succ])
  (apply RG.wpT_exact; · (intro w' hC hf; unfold RG.Gives; clear hf hC; go_wp2_with (fail); apply RG.postT_val rfl (Grow.refl _); simp only [RG.valAt, Array.getD_eq_getD_getElem?, List.getElem?_toArray, List.getElem?_cons_succ, List.getElem?_cons_zero, Option.getD_some]; exact rfl)); (try simp only [Act.put, List.setIfInBounds_toArray, List.set_cons_zero, List.set_cons_succ])
  (apply RG.wpT_exact; · (intro w' hC hf; unfold RG.Gives; obtain ⟨b', o', _, _, _, _, hbo, _, q, _⟩ := fld_at ((H.out.turn hC).fact (.head _)) 0 (by simp); (simp only [List.getElem_cons_zero] at q); rw [HNF.out] at q; (injection hbo with hbo; injection hbo with hb1 hb2; subst hb1; subst hb2); (try simp at q); clear hf hC; go_wp2_with (fail); apply RG.postT_val rfl (Grow.refl _); simp only [RG.valAt, Array.getD_eq_getD_getElem?, List.getElem?_toArray, List.getElem?_cons_succ, List.getElem?_cons_zero, Option.getD_some]; exact rfl)); (try simp only [Act.put, List.setIfInBounds_toArray, List.set_cons_zero, List.set_cons_succ])
  apply RG.wpT_exact (c := .int .i64 x4)
  · intro w' hC hf; unfold RG.Gives; clear hf
    obtain ⟨A4', c4', e4, _, _, hs4⟩ := (H.out.turn hC).rowSl (α := Fld) (.head _) ((H.out.turn hC).fact (.tail _ (.head _)))
    obtain rfl : A4 = A4' := by injection e4
    have hm4 := HFL4.out
    have CC := has_any fs4 A4 c4 nmf w' hs4 (by omega)
    rw [HX4.out] at CC
    clear hs4 e4
    go_wp2_with (go_at_call 72; ((with_reducible refine CC.mono ?_)); rintro e w3 ⟨rfl, hb⟩)
    apply RG.postT_val rfl (K.grown hb); simp only [RG.valAt, Array.getD_eq_getD_getElem?, List.getElem?_toArray, List.getElem?_cons_succ, List.getElem?_cons_zero, Option.getD_some]
  (try simp only [Act.put, List.setIfInBounds_toArray, List.set_cons_zero, List.set_cons_succ])
  (apply RG.wpT_exact; · (intro w' hC hf; unfold RG.Gives; clear hf hC; go_wp2_with (fail); apply RG.postT_val rfl (Grow.refl _); simp only [RG.valAt, Array.getD_eq_getD_getElem?, List.getElem?_toArray, List.getElem?_cons_succ, List.getElem?_cons_zero, Option.getD_some]; exact rfl)); (try simp only [Act.put, List.setIfInBounds_toArray, List.set_cons_zero, List.set_cons_succ])
  (apply RG.wpT_exact; · (intro w' hC hf; unfold RG.Gives; clear hf hC; go_wp2_with (fail); apply RG.postT_val rfl (Grow.refl _); simp only [RG.valAt, Array.getD_eq_getD_getElem?, List.getElem?_toArray, List.getElem?_cons_succ, List.getElem?_cons_zero, Option.getD_some]; exact rfl)); (try simp only [Act.put, List.setIfInBounds_toArray, List.set_cons_zero, List.set_cons_succ])
  apply RG.wpT_done
  intro w4 hC hall
  have T := Lib.hid (H.out.turn hC)
  clear hall hC H
  go_wp2_with fail
  go_meet
  case rel => exact ⟨_, rfl, fun h => ⟨f, r, rfl, by rw [HNF.out, HX4.out]; exact of_decide_eq_true h⟩, _, T.out⟩
end Go.Proofs.YtmplaikgbeeikaaGreatDoor
namespace Go.Proofs.YtmplaikgbeeikaaGreatDoor
open Go Go.RowKit
set_option maxRecDepth 1000000 in
set_option maxHeartbeats 100000000 in
theorem gkind_any {K : MkK} {M : List Nat} {bx : List Box} {rs : List Rw} {L : List (List Nat → World → Prop)} {W : World} {ks : List Knd} {n : Nat} {kv : Value} {kxs : List Value} (h : MkH K M bx (⟨49, 4, kv, n, kxs⟩ :: rs) ((fun M W => Flat M W ks kxs) :: L) W) (hn : n = ks.length) (hn2 : n ≤ 2) (hne : ∀ k ∈ ks, 1 ≤ (Sc.flds k).length ∧ (Sc.flds k).length ≤ 20) : Calls Tryz.prog 27 #[K.p, kv] W (KindP K bx rs L ks n kv) := by
  obtain ⟨A0, c0, rfl⟩ := h.form
  have H := Lib.hid (h.new #[.string ⟨#[]⟩, .int .i64 0, .int .i64 0, .slice none 0 0] 49 rfl)
  have HN := Lib.hid hn
  have HNE := Lib.hid hne
  clear h hn hne
  go_enter Tryz.func27, Tryz.ntmps27
  go_wp2_with fail
  have H1 := Lib.hid (H.out.made (N := W.heap.size + 1) #[.int .i64 0, .int .i64 1, .int .i64 2, .int .i64 4, .int .i64 1, .int .i64 2] 3 (by simp))
  clear H
  generalize hW2 : ((W.alloc _).alloc _) = W2 at H1 ⊢
  generalize W.heap.size = rb at H1 ⊢
  clear hW2
  go_at_call 26
  refine (H1.out.take _ (by omega) (by omega)).mono ?_
  rintro e w1 ⟨z, rfl, z1, z2, hr⟩
  obtain ⟨z, rfl⟩ : ∃ z' : Nat, z = z' := ⟨z.toNat, by omega⟩
  replace H1 := Lib.hid (H1.out.turn hr); clear hr
  obtain ⟨lo, lo0, lo4, hlo⟩ := los_at z (by omega)
  have q := (H1.out.fact (.head _)).2.cell z
  rw [hlo] at q
  clear hlo W2
  have z3 : (z : Int) < 6 := by omega
  go_wp2_with fail
  go_cut [7] from 14 (fun v7 w' => ∃ hi : Int, lo ≤ hi ∧ hi ≤ lo + 4 ∧ KSt K bx rs L rb n (.slice A0 n c0) v7 (Sg.kname n) lo hi [] ks w')
  case first =>
    rename_i J_ K_ hJ_ hM_
    obtain ⟨wo, rfl⟩ : ∃ wo : World, wo = w1 := ⟨_, rfl⟩
    have H := Lib.hid (H1.out.less (L' := (fun M W => Flat M W ks kxs) :: L) (fun P hP => .tail _ hP))
    clear H1 q
    letI : Grow := K.grow
    exact kmn_0 (_W := wo) (by kernel_rfl) hn2 z1 z2 lo0 lo4 z3 H hJ_ hM_
  case rest =>
    obtain ⟨hi, hi1, hi2, hk⟩ := hcut
    clear H1 q z1 z2 z3 w1
    obtain ⟨nm, hnm⟩ : ∃ s, Sg.kname n = s := ⟨_, rfl⟩
    have HNM0 := Lib.hid (show nm.size ≤ 9223372036854775807 by rw [← hnm]; rcases (show n = 0 ∨ n = 1 ∨ n = 2 by omega) with rfl | rfl | rfl <;> decide)
    rw [hnm] at hk
    go_wp2_with fail
    go_cut [] from 14 (fun w' => ∃ x : Int, Sg.okLo x ∧ KSt K bx rs L rb n (.slice A0 n c0) u7 nm lo hi [Sg.idF x] ks w')
    case first =>
      rename_i J_ K_ hJ_ hM_
      obtain ⟨wo, rfl⟩ : ∃ wo : World, wo = wc := ⟨_, rfl⟩
      obtain ⟨M1, kb, fv, fxs, kxs, rfl, HK⟩ := hk
      have H := Lib.hid HK
      clear HK
      letI : Grow := K.grow
      exact kmn_1 (_M := []) (_W := W) (by kernel_rfl) hn2 lo0 lo4 hi1 hi2 hnm H hJ_ hM_
    case rest =>
      obtain ⟨x, hx, hk⟩ := hcut
      have HX := Lib.hid hx
      clear hx
      go_upto_if 43 with fail
      go_cut [] from 14 (fun w' => ∃ fs ks', Sg.Body nm ks fs ks' ∧ KSt K bx rs L rb n (.slice A0 n c0) u7 nm lo hi fs ks' w')
      case first =>
        rename_i J_ K_ hJ_ hM_
        by_cases hn0 : 0 < n
        · exact kind_up (decide_eq_true (by omega)) hn2 HN HNE HNM0 lo0 lo4 hi1 hi2 HX hn0 hk hJ_ hM_
        · obtain rfl : n = 0 := by omega
          obtain rfl : ks = [] := List.eq_nil_of_length_eq_zero (by rw [← HN.out])
          go_wp2_with fail
          go_meet
          case rel => exact ⟨_, _, .nil x HX.out, hk⟩
      case rest =>
        obtain ⟨fs, ks', hbody, hk⟩ := hcut
        have HBD := Lib.hid hbody
        obtain ⟨hfl1, hfl2, hkl⟩ := hbody.len
        have HFL := Lib.hid hfl2
        have HKL := Lib.hid (hkl.trans HN.out.symm)
        clear hbody hfl1 hfl2 hkl
        go_upto_region 18 with fail
        go_cut [142] from 14 (fun v142 w' => ∃ b : Bool, v142 = .bool b ∧ (b = true → 2 ≤ n) ∧ KSt K bx rs L rb n (.slice A0 n c0) u7 nm lo hi fs ks' w')
        case first =>
          rename_i J_ K_ hJ_ hM_
          obtain ⟨M1, kb, fv, fxs, kxs, rfl, HK⟩ := hk
          have H := Lib.hid HK
          clear HK
          by_cases hn1 : 1 < n
          · have t1 : decide ((1 : Int) < (n : Int)) = true := decide_eq_true (by omega)
            go_wp2_with (go_at_call 26; refine (H.out.take 3 (by omega) (by omega)).mono ?_; rintro e w4 ⟨v, rfl, v1, v2, hr⟩; replace H := Lib.hid (H.out.turn hr); clear hr)
            go_meet
            case rel => exact ⟨_, rfl, fun _ => (by omega), _, kb, fv, fxs, kxs, rfl, H.out⟩
          · have t1 : decide ((1 : Int) < (n : Int)) = false := decide_eq_false (by omega)
            go_wp2_with fail
            go_meet
            case rel => exact ⟨_, rfl, fun h => (by cases h), _, kb, fv, fxs, kxs, rfl, H.out⟩
        case rest =>
          obtain ⟨b, rfl, hb, hk⟩ := hcut
          go_upto_if 142 with fail
          go_cut [] from 14 (fun w' => ∃ by_, Sg.By ks ks' by_ ∧ KSt K bx rs L rb n (.slice A0 n c0) u7 nm lo hi (fs ++ by_) ks' w')
          case first =>
            rename_i J_ K_ hJ_ hM_
            cases b
            · go_wp2_with fail
              go_meet
              case rel => exact ⟨[], .inl rfl, by rw [List.append_nil]; exact hk⟩
            · have hn1 := hb rfl
              have hn0 : 0 < n := by omega
              obtain ⟨M1, kb, fv, fxs, kxs, rfl, HK⟩ := hk
              obtain ⟨g, rfl⟩ := HK.rform (.tail _ (.head _)) hn0
              have hzk : 0 < ks'.length := by rw [HKL.out]; exact hn0
              obtain ⟨B, cB, g0, g1, g2, g3, s1, s2, s3, s4⟩ := flat_knd (HK.fact (.tail _ (.head _))) 0 hzk
              obtain ⟨nmo, hnmo⟩ : ∃ s, ks'[0].1 = s := ⟨_, rfl⟩
              rw [hnmo] at g0 s4
              have HNM := Lib.hid hnmo
              have HQ0 := Lib.hid g0
              have H := Lib.hid HK
              clear HK hnmo g0 g1 g2 g3 s1 s2 s3
              go_wp2_with fail
              obtain ⟨wo, rfl⟩ : ∃ wo : World, wo = wc := ⟨_, rfl⟩
              letI : Grow := K.grow
              exact kmn_2 (_M := []) (_W := W) (by kernel_rfl) hn2 HN lo0 lo4 hi1 hi2 hnm HFL hn1 hn0 hzk s4 HNM HQ0 hb H hJ_ hM_
          case rest =>
            obtain ⟨by_, hby, hk⟩ := hcut
            have HBY := Lib.hid hby
            obtain ⟨fs3, hfs3⟩ : ∃ l, fs ++ by_ = l := ⟨_, rfl⟩
            have HFS3 := Lib.hid hfs3
            have HFL3 := Lib.hid (show fs3.length ≤ 5 by rw [← hfs3, List.length_append]; have := HFL.out; rcases hby with rfl | ⟨_, _, _, rfl⟩ <;> simp <;> omega)
            rw [hfs3] at hk
            clear hby hb hfs3
            obtain ⟨M1, kb, fv, fxs, kxs, rfl, HK⟩ := hk
            have H := Lib.hid HK
            clear HK
            go_upto_region 21 with (go_at_call 73; refine (gplain_any H.out).mono ?_; rintro e w2 ⟨A1, first, c1, M2, rfl, pc1, pc2, hpl, HP⟩)
            clear H
            obtain ⟨xs1, hr1, hx1⟩ := (HP.fact (.head _)).reads
            have H1 := Lib.hid ((HP.add (keeps_flat first xs1) hx1).fswap.tail)
            have HR1 := Lib.hid hr1
            have HPL := Lib.hid hpl
            have hml := hpl.len
            have hm3 := HFL3.out
            obtain ⟨m0, hm0⟩ : ∃ m, first.length = m := ⟨_, rfl⟩
            rw [hm0] at HR1 hml
            have HM0 := Lib.hid hm0
            have q := HP.box (.head _); have q3 := q.cell 3; (simp at q3); clear q
            clear HP hr1 hx1 hpl hm0
            rw [HM0.out]
            go_cut [] from 12 (fun w' => KSt K bx rs L rb n (.slice A0 n c0) (.pointer (some ⟨kb, 0, none⟩)) nm lo hi (fs3 ++ first) ks' w')
            case first =>
              rename_i J_ K_ hJ_ hM_
              go_wp2_with (at_builtin; obtain ⟨i0, hI, hz0, hz1, hz2⟩ := info_parts infoFld; refine wpList_append_mk (by rfl) _ _ 47 (by rfl) 52 i0 _ 8 120 Tryz.underlying47 hI hz0 hz1 hz2 rfl (by decide) H1.out (by rfl) _ A1 m0 c1 xs1 (by rfl) HR1.out (H1.out.fact (.head _)).one (by unfold maxLen; omega) (by omega) ?_; intro v5 w5 M5 h5 _; obtain ⟨A5, c5, rfl⟩ := h5.form; have hq := h5.box (.head _); have f3 := hq.frozen 3; have q3 := hq.cell 3; (simp at q3); clear hq; have T5 := Lib.hid (h5.tail.putF (news := first) (h5.fact (.head _))); clear h5 hI hz0 hz1 hz2)
              go_meet
              case rel => exact KSt.mk1 T5.out HM0.out
            case rest =>
              clear H1 HR1 q3 pc1 pc2
              clear w2
              obtain ⟨fs4, hfs4⟩ : ∃ l, fs3 ++ first = l := ⟨_, rfl⟩
              have HFS4 := Lib.hid hfs4
              have HFL4 := Lib.hid (show fs4.length ≤ 7 by rw [← hfs4, List.length_append]; have := HPL.out.len; omega)
              rw [hfs4] at hcut
              clear hfs4
              obtain ⟨M1, kb', fv, fxs, kxs, e1, HK⟩ := hcut
              obtain rfl : kb = kb' := by injection e1 with e1; injection e1 with e1; injection e1
              clear e1
              have H := Lib.hid HK
              clear HK
              go_wp2_with fail
              go_at_call 26
              refine (H.out.take 2 (by omega) (by omega)).mono ?_
              rintro e w3 ⟨v, rfl, v1, v2, hr⟩
              replace H := Lib.hid (H.out.turn hr); clear hr
              go_upto_if 162 with fail
              go_cut [] from 12 (fun w' => ∃ second, Sg.Sec fs4 second ∧ KSt K bx rs L rb n (.slice A0 n c0) (.pointer (some ⟨kb, 0, none⟩)) nm lo hi (fs4 ++ second) ks' w')
              case first =>
                rename_i J_ K_ hJ_ hM_
                by_cases hv : v = 0
                · subst hv
                  go_upto_region 24 with (go_at_call 73; refine (gplain_any H.out).mono ?_; rintro e w2 ⟨A1, second, c1, M2, rfl, pc1, pc2, hpl, HP⟩)
                  clear H
                  have HPL2 := Lib.hid hpl
                  have hml2 := hpl.len
                  obtain ⟨m2, hm2⟩ : ∃ m, second.length = m := ⟨_, rfl⟩
                  rw [hm2] at hml2 pc1
                  have HM2 := Lib.hid hm2
                  have H := Lib.hid HP
                  clear HP hpl hm2
                  rw [HM2.out]
                  go_cut [177] from 14 (fun v177 w' => ∃ b : Bool, v177 = .bool b ∧ (b = true → ∃ f r, second = f :: r ∧ Sc.ix (Sc.named (Sc.nm f)) fs4 < 0) ∧ ∃ M, MkH K M ((kb, 49, #[.string nm, .int .i64 lo, .int .i64 hi, fv]) :: (rb, 49, #[.string ⟨#[]⟩, .int .i64 0, .int .i64 0, .slice none 0 0]) :: bx) (⟨52, 8, fv, fs4.length, fxs⟩ :: ⟨49, 4, .slice A0 n c0, n, kxs⟩ :: rs) ((fun M W => SlAt M W A1 second) :: (fun M W => Flat M W fs4 fxs) :: (fun M W => Flat M W ks' kxs) :: L) w')
                  case first =>
                    rename_i J_ K_ hJ_ hM_
                    cases second with
                    | nil =>
                      obtain rfl : 0 = m2 := HM2.out
                      go_wp2_with fail
                      go_quiet (fail)
                      go_wp2_with fail
                      go_meet
                      case rel => exact ⟨_, rfl, fun h => (by cases h), _, by first | exact H.out.drewN _ | exact H.out.drew | exact H.out⟩
                    | cons f r =>
                      obtain rfl : r.length + 1 = m2 := HM2.out
                      have t1 : decide ((0 : Int) < ((r.length + 1 : Nat) : Int)) = true := decide_eq_true (by omega)
                      obtain ⟨b1, o1, _, _, _, _, rfl, _, _, _⟩ := fld_at (H.out.fact (.head _)) 0 (by simp)
                      obtain ⟨A4, c4, rfl, _, _, _⟩ := H.out.rowSl (α := Fld) (.head _) (H.out.fact (.tail _ (.head _)))
                      obtain ⟨nmf, hnmf⟩ : ∃ s, Sc.nm f = s := ⟨_, rfl⟩
                      have HNF := Lib.hid hnmf
                      obtain ⟨x4, hx4⟩ : ∃ x, Sc.ix (Sc.named nmf) fs4 = x := ⟨_, rfl⟩
                      have HX4 := Lib.hid hx4
                      clear hnmf hx4
                      obtain ⟨wo, rfl⟩ : ∃ wo : World, wo = w2 := ⟨_, rfl⟩
                      letI : Grow := K.grow
                      exact kmn_3 (_M := []) (_W := W) (_b := true) (by kernel_rfl) hn2 lo0 lo4 hi1 hi2 hnm hm3 hml HFL4 v1 v2 pc2 pc1 hml2 t1 HNF HX4 H hJ_ hM_
                  case rest =>
                    obtain ⟨b, rfl, hb, M4, HP⟩ := hcut
                    clear H
                    cases b
                    · go_wp2_with fail
                      go_meet
                      case rel => exact ⟨[], .inl rfl, by rw [List.append_nil]; exact ⟨_, kb, fv, fxs, kxs, rfl, HP.tail⟩⟩
                    · obtain ⟨f, r, hfr, hix⟩ := hb rfl
                      have HIX := Lib.hid hix
                      have HFR := Lib.hid hfr
                      clear hb hfr hix
                      obtain ⟨xs1, hr1, hx1⟩ := (HP.fact (.head _)).reads
                      have H1 := Lib.hid ((HP.add (keeps_flat second xs1) hx1).fswap.tail)
                      have hm4 := HFL4.out
                      rw [HM2.out] at hr1
                      have HR1 := Lib.hid hr1
                      have q := HP.box (.head _); have q3 := q.cell 3; (simp at q3); clear q
                      clear HP hr1 hx1
                      go_wp2_with (at_builtin; obtain ⟨i0, hI, hz0, hz1, hz2⟩ := info_parts infoFld; refine wpList_append_mk (by rfl) _ _ 47 (by rfl) 52 i0 _ 8 120 Tryz.underlying47 hI hz0 hz1 hz2 rfl (by decide) H1.out (by rfl) _ A1 m2 c1 xs1 (by rfl) HR1.out (H1.out.fact (.head _)).one (by unfold maxLen; omega) (by omega) ?_; intro v5 w5 M5 h5 _; obtain ⟨A5, c5, rfl⟩ := h5.form; have hq := h5.box (.head _); have f3 := hq.frozen 3; have q3 := hq.cell 3; (simp at q3); clear hq; have T5 := Lib.hid (h5.tail.putF (news := second) (h5.fact (.head _))); clear h5 hI hz0 hz1 hz2)
                      go_meet
                      case rel => exact ⟨second, .inr ⟨HPL2.out, f, r, HFR.out, HIX.out⟩, KSt.mk1 T5.out HM2.out⟩
                · have t1 : (v == 0) = false := by rw [beq_eq_false_iff_ne]; exact hv
                  go_wp2_with fail
                  go_meet
                  case rel => exact ⟨[], .inl rfl, by rw [List.append_nil]; exact ⟨_, kb, fv, fxs, kxs, rfl, H.out⟩⟩
              case rest =>
                obtain ⟨second, hsec, hk⟩ := hcut
                have HSEC := Lib.hid hsec
                clear H hsec
                obtain ⟨M1, kb', fv, fxs, kxs, e1, HK⟩ := hk
                obtain rfl : kb = kb' := by injection e1 with e1; injection e1 with e1; injection e1
                clear e1
                obtain ⟨A, c, M5, rfl, c1', c2', H5, _⟩ := HK.freeze (α := Fld) rfl rfl (HK.fact (.head _))
                obtain ⟨m, hm⟩ : ∃ m, (fs4 ++ second).length = m := ⟨_, rfl⟩
                rw [hm] at H5 c1'
                have HM := Lib.hid hm
                have H := Lib.hid H5
                clear HK H5 hm
                go_upto_region 26 with fail
                go_cut [] from 12 (fun w' => ∃ M, MkH K M ((rb, 49, #[.string nm, .int .i64 lo, .int .i64 hi, .slice A m c]) :: bx) (⟨49, 4, .slice A0 n c0, n, kxs⟩ :: rs) ((fun M W => SlAt M W A (fs4 ++ second)) :: (fun M W => Flat M W ks' kxs) :: L) w')
                case first =>
                  rename_i J_ K_ hJ_ hM_
                  have q := H.out.box (.head _); have q0 := q.cell 0; have q1 := q.cell 1; have q2 := q.cell 2; have q3 := q.cell 3; (simp at q0 q1 q2 q3); clear q
                  have q := H.out.box (.tail _ (.head _)); have r0 := q.cell 0; have r1 := q.cell 1; have r2 := q.cell 2; have r3 := q.cell 3; (simp at r0 r1 r2 r3); have f0 := q.frozen 0; have f1 := q.frozen 1; have f2 := q.frozen 2; have f3 := q.frozen 3; clear q
                  go_wp2_with fail
                  go_meet
                  case rel =>
                    have T := ((((H.out.swap.set0 0 (.string nm)).set0 1 (.int .i64 lo)).set0 2 (.int .i64 hi)).set0 3 (.slice A m c))
                    exact ⟨_, (T.swap.unbox).fswap.tail⟩
                case rest =>
                  obtain ⟨M6, H6⟩ := hcut
                  clear H
                  have q := H6.box (.head _); have q0 := q.cell 0; have q1 := q.cell 1; have q2 := q.cell 2; have q3 := q.cell 3; (simp at q0 q1 q2 q3); clear q
                  have H7 := Lib.hid H6.unbox
                  clear H6
                  rename_i hK
                  apply hK
                  refine wp_ret ?_
                  refine bodyPost_ret (v := .agg #[.string nm, .int .i64 lo, .int .i64 hi, .slice A m c]) ?_ rfl ?_
                  · simp [results, Tryz.results27, go_sem, q0, q1, q2, q3]
                    try rfl
                  · have hs := HSEC.out
                    have hb := HBY.out
                    have hp := HPL.out
                    have hbd := HBD.out
                    have hf : Sg.Fields nm ks (fs4 ++ second) ks' := by
                      have := Sg.Fields.mk (nm := nm) (ks := ks) fs ks' by_ first second hbd hb hp (by rw [HFS3.out, HFS4.out]; exact hs)
                      rw [HFS3.out, HFS4.out] at this
                      exact this
                    refine ⟨(nm, lo, hi, fs4 ++ second), ks', A, c, kxs, _, by show _ = Ending.returned (.agg #[.string nm, .int .i64 lo, .int .i64 hi, .slice A (fs4 ++ second).length c]); rw [HM.out], by show (fs4 ++ second).length ≤ c; rw [HM.out]; exact c1', c2', ⟨?_, lo0, lo4, hi1, hi2, hf⟩, H7.out⟩
                    show nm = _
                    rw [← HN.out]; exact hnm.symm
end Go.Proofs.YtmplaikgbeeikaaGreatDoor
namespace Go.Proofs.YtmplaikgbeeikaaGreatDoor
open Go Go.RowKit
namespace Sg
def bmost : ByteArray := ⟨#[109, 111, 115, 116]⟩
def bleast : ByteArray := ⟨#[108, 101, 97, 115, 116]⟩
/-- What rule gives for a kind. -/
inductive Rule (k : Knd) : Rul → Bool → Prop
  | none : Sc.ix (Sc.named bsz) (Sc.flds k) < 0 → Rule k (be, be, be, be, 0) false
  | low (z : Int) : 0 ≤ Sc.ix (Sc.named blow) (Sc.flds k) → 0 ≤ z → z ≤ 7 → Rule k (border ++ k.1.extract 0 1, k.1, blow, bhigh, z - 2) true
  | most (i : Nat) (h : i < (Sc.flds k).length) (z : Int) : Sc.ix (Sc.named bsz) (Sc.flds k) = i → 0 ≤ z → z ≤ 11 → Rule k (bmost ++ k.1.extract 0 1, k.1, bsz, be, Sc.lo (Sc.flds k)[i] + z) true
  | least (i : Nat) (h : i < (Sc.flds k).length) (z : Int) : Sc.ix (Sc.named bsz) (Sc.flds k) = i → 0 ≤ z → z ≤ 11 → Rule k (bleast ++ k.1.extract 0 1, k.1, be, bsz, z - Sc.hi (Sc.flds k)[i]) true
end Sg
def rulCells (r : Rul) : Array Value := #[.string r.1, .string r.2.1, .string r.2.2.1, .string r.2.2.2.1, .int .i64 r.2.2.2.2]
/-- What a call of rule leaves. -/
def RuleP (K : MkK) (bx : List Box) (rs : List Rw) (L : List (List Nat → World → Prop)) (k : Knd) (e : Ending) (w' : World) : Prop :=
  ∃ r b M', e = .returned (.tuple #[.agg (rulCells r), .bool b]) ∧ Sg.Rule k r b ∧ MkH K M' bx rs L w'
set_option maxRecDepth 100000 in
set_option maxHeartbeats 100000000 in
theorem grule_any {K : MkK} {M : List Nat} {bx : List Box} {rs : List Rw} {L : List (List Nat → World → Prop)} {W : World} {k : Knd} {A : Option Addr} {c : Nat} (h : MkH K M bx rs L W) (hs : SlAt M W A (Sc.flds k)) (hm : (Sc.flds k).length ≤ 20) (hn1 : 1 ≤ k.1.size) (hn2 : k.1.size ≤ 20) (hbd : ∀ f ∈ Sc.flds k, -1000 ≤ Sc.lo f ∧ Sc.lo f ≤ 1000 ∧ -1000 ≤ Sc.hi f ∧ Sc.hi f ≤ 1000) :
    Calls Tryz.prog 28 #[K.p, .agg #[.string k.1, .int .i64 k.2.1, .int .i64 k.2.2.1, .slice A (Sc.flds k).length c]] W (RuleP K bx rs L k) := by
  obtain ⟨nm, hnm⟩ : ∃ s, k.1 = s := ⟨_, rfl⟩
  obtain ⟨n, hn⟩ : ∃ m, (Sc.flds k).length = m := ⟨_, rfl⟩
  obtain ⟨lo, hlo⟩ : ∃ i, k.2.1 = i := ⟨_, rfl⟩
  obtain ⟨hi, hhi⟩ : ∃ i, k.2.2.1 = i := ⟨_, rfl⟩
  rw [hnm, hn, hlo, hhi]
  have h0 := (h.add (keeps_sl A (Sc.flds k)) hs)
  have h1 := ((h0.new #[.string nm, .int .i64 lo, .int .i64 hi, .slice A n c] 49 rfl).new (N := W.heap.size + 1) #[.string ⟨#[]⟩, .string ⟨#[]⟩, .string ⟨#[]⟩, .string ⟨#[]⟩, .int .i64 0] 58 (by simp))
  obtain ⟨W0, hW0⟩ : ∃ X, (W.alloc (.cells #[.string nm, .int .i64 lo, .int .i64 hi, .slice A n c] 49)).alloc (.cells #[.string ⟨#[]⟩, .string ⟨#[]⟩, .string ⟨#[]⟩, .string ⟨#[]⟩, .int .i64 0] 58) = X := ⟨_, rfl⟩
  rw [hW0] at h1
  have hs0 := h1.fact (.head _)
  have H := Lib.hid h1
  have q := h1.box (.tail _ (.head _)); have q3 := q.cell 3; (simp at q3); clear q h1
  have CL0 := fun w' (hb : Below W0.heap.size W0 w') => has_any (Sc.flds k) A c Sg.blow w' (hs0.keep (Chg.of_below hb)) (by omega)
  have CS0 := fun w' (hb : Below W0.heap.size W0 w') => has_any (Sc.flds k) A c Sg.bsz w' (hs0.keep (Chg.of_below hb)) (by omega)
  rw [hn] at CL0 CS0
  obtain ⟨il, hil⟩ : ∃ i, Sc.ix (Sc.named Sg.blow) (Sc.flds k) = i := ⟨_, rfl⟩
  obtain ⟨is, his⟩ : ∃ i, Sc.ix (Sc.named Sg.bsz) (Sc.flds k) = i := ⟨_, rfl⟩
  rw [hil] at CL0
  rw [his] at CS0
  have CL := Lib.hid CL0; have CS := Lib.hid CS0; have HIL := Lib.hid hil; have HIS := Lib.hid his; have HBD := Lib.hid hbd; have HN := Lib.hid hn; have HNM := Lib.hid hnm
  rw [hnm] at hn1 hn2
  rw [hn] at hm
  clear hs0 CL0 CS0 hil his hbd hn hnm h0 h hs hlo hhi
  go_enter Tryz.func28, Tryz.ntmps28
  go_wp2_with fail
  generalize W.heap.size + 1 = rb at H ⊢
  generalize W.heap.size = kb at H ⊢
  clear hW0
  go_at_call 72
  refine (CL.out _ (Below.refl _ _)).mono ?_
  rintro e w3 ⟨rfl, hb⟩
  replace H := Lib.hid (H.out.below hb)
  have HB3 := Lib.hid hb
  clear hb q3
  have q := H.out.box (.tail _ (.head _)); have q3 := q.cell 3; (simp at q3); clear q
  go_wp2_with fail
  go_at_call 72
  refine (CS.out _ HB3.out).mono ?_
  rintro e w4 ⟨rfl, hb⟩
  replace H := Lib.hid (H.out.below hb)
  clear hb
  go_upto_region 3 with fail
  go_cut [21] from 9 (fun v21 w' => ∃ b : Bool, v21 = .bool b ∧ (b = true → 0 ≤ il) ∧ ∃ M, MkH K M ((rb, 58, #[.string ⟨#[]⟩, .string ⟨#[]⟩, .string ⟨#[]⟩, .string ⟨#[]⟩, .int .i64 0]) :: (kb, 49, #[.string nm, .int .i64 lo, .int .i64 hi, .slice A n c]) :: bx) rs ((fun M W => SlAt M W A (Sc.flds k)) :: L) w')
  case first =>
    clear CL CS HB3
    by_cases hl0 : 0 ≤ il
    · go_wp2_with (go_at_call 26; refine (H.out.take 3 (by omega) (by omega)).mono ?_; rintro e w5 ⟨v, rfl, v1, v2, hr⟩; replace H := Lib.hid (H.out.turn hr); clear hr)
      go_meet
      case rel => exact ⟨_, rfl, fun _ => hl0, _, H.out⟩
    · have t1 : decide (0 ≤ il) = false := decide_eq_false hl0
      go_wp2_with fail
      go_meet
      case rel => exact ⟨_, rfl, fun h => (by cases h), _, H.out⟩
  case rest =>
    obtain ⟨b, rfl, hb, M2, HS⟩ := hcut
    clear H CL CS HB3
    have H := Lib.hid HS
    clear HS
    have hlen : (1 : Int) ≤ ((nm.size : Nat) : Int) := by omega
    cases b
    · clear hb
      by_cases hs0 : is < 0
      · have HB := Lib.hid (show Sc.ix (Sc.named Sg.bsz) (Sc.flds k) < 0 by rw [HIS.out]; exact hs0)
        have t1 : decide (is < 0) = true := decide_eq_true hs0
        go_upto_region 6 with fail
        go_cut [5] from 6 (fun v5 w' => v5 = .bool false ∧ ∃ r, Sg.Rule k r false ∧ ∃ M, MkH K M ((rb, 58, rulCells r) :: (kb, 49, #[.string nm, .int .i64 lo, .int .i64 hi, .slice A n c]) :: bx) rs ((fun M W => SlAt M W A (Sc.flds k)) :: L) w')
        case first =>
          have q := H.out.box (.head _); have f0 := q.frozen 0; have f1 := q.frozen 1; have f2 := q.frozen 2; have f3 := q.frozen 3; have f4 := q.frozen 4; have q0 := q.cell 0; have q1 := q.cell 1; have q2 := q.cell 2; have q3 := q.cell 3; have q4 := q.cell 4; (simp at q0 q1 q2 q3 q4); clear q
          go_wp2_with fail
          go_meet
          case rel => exact ⟨rfl, (Sg.be, Sg.be, Sg.be, Sg.be, 0), .none HB.out, _, ((((H.out.set0 0 _).set0 1 _).set0 2 _).set0 3 _).set0 4 _⟩
        case rest =>
          obtain ⟨rfl, r, hr, M9, H9⟩ := hcut
          have q := H9.box (.head _); have q0 := q.cell 0; have q1 := q.cell 1; have q2 := q.cell 2; have q3 := q.cell 3; have q4 := q.cell 4; (simp [rulCells] at q0 q1 q2 q3 q4); clear q
          have H8 := Lib.hid H9.unbox.unbox.tail
          have HR := Lib.hid hr
          clear H9 hr
          rename_i hK
          apply hK
          refine wp_ret ?_
          (try simp only [Exit.then])
          refine bodyPost_ret (v := .tuple #[.agg (rulCells r), .bool false]) ?_ rfl ?_
          · simp [results, Tryz.results28, go_sem, q0, q1, q2, q3, q4, rulCells]
            try rfl
          · exact ⟨r, false, M9, rfl, HR.out, H8.out⟩
      · have t1 : decide (is < 0) = false := decide_eq_false hs0
        obtain ⟨i, hi', hie, _⟩ := Sc.ix_get (p := Sc.named Sg.bsz) (l := Sc.flds k) (by rw [HIS.out]; omega)
        have HIE := Lib.hid hie
        rw [HIS.out] at hie
        subst hie
        have hin : i < n := by rw [← HN.out]; exact hi'
        have k2 : (i : Int) < (n : Int) := by omega
        have hbd := HBD.out _ (List.getElem_mem hi')
        obtain ⟨b1, o1, B, cB, C, cC, rfl, _, g0, g1, g2, g3, g4, g5, g6, g7, _⟩ := fld_at (H.out.fact (.head _)) i hi'
        obtain ⟨f, hf⟩ : ∃ f, (Sc.flds k)[i] = f := ⟨_, rfl⟩
        rw [hf] at g0 g1 g2 g3 g4 g5 g6 g7 hbd
        have HF := Lib.hid hf
        obtain ⟨flo, hflo⟩ : ∃ x, Sc.lo f = x := ⟨_, rfl⟩
        obtain ⟨fhi, hfhi⟩ : ∃ x, Sc.hi f = x := ⟨_, rfl⟩
        rw [hflo] at g4 hbd
        rw [hfhi] at g5 hbd
        obtain ⟨d1, d2, d3, d4⟩ := hbd
        have H2 := Lib.hid (H.out.new #[.string (Sc.nm f), .string (Sc.of_ f), .string (Sc.up f), .int .i64 (Sc.kd f), .int .i64 flo, .int .i64 fhi, .slice B (Sc.words f).length cB, .slice C (Sc.wts f).length cC] 52 rfl)
        have q := H.out.box (.tail _ (.head _)); have y3 := q.cell 3; (simp at y3); clear q
        have HFL := Lib.hid hflo
        have HFH := Lib.hid hfhi
        clear H hf hflo hfhi hs0
        generalize Sc.nm f = z0 at *
        generalize Sc.of_ f = z1 at *
        generalize Sc.up f = z2 at *
        generalize Sc.kd f = z3 at *
        generalize (Sc.words f).length = z6 at *
        generalize (Sc.wts f).length = z7 at *
        go_upto_region 8 with fail
        generalize hW9 : wc.alloc _ = W9 at H2 ⊢
        generalize wc.heap.size = fb at H2 ⊢
        clear g0 g1 g2 g3 g4 g5 g6 g7 y3 hW9
        have H := H2
        clear H2
        go_wp2_with fail
        go_at_call 26
        refine (H.out.take 2 (by omega) (by omega)).mono ?_
        rintro e w5 ⟨v, rfl, v1, v2, hr⟩
        replace H := Lib.hid (H.out.turn hr); clear hr
        by_cases hv : v = 0
        · subst hv
          go_upto_region 9 with fail
          go_cut [5] from 6 (fun v5 w' => v5 = .bool true ∧ ∃ r, Sg.Rule k r true ∧ ∃ M, MkH K M ((rb, 58, rulCells r) :: (kb, 49, #[.string nm, .int .i64 lo, .int .i64 hi, .slice (some ⟨b1, o1, none⟩) n c]) :: bx) rs ((fun M W => SlAt M W (some ⟨b1, o1, none⟩) (Sc.flds k)) :: L) w')
          case first =>
            obtain ⟨wo, rfl⟩ : ∃ wo : World, wo = w5 := ⟨_, rfl⟩
            letI : Grow := K.grow
            apply RG.wp_region_typed (C := fun w' => K.R wo w') (n := 67) (m := 12) (l1 := [_, _, _, _, _, _, _, _, _, _, _, _]) (l2 := [_, _])
            · rfl
            · rfl
            · kernel_rfl
            · rfl
            · kernel_rfl
            · exact K.drew wo
            · exact fun u u' h hb => h.trans hb
            (apply RG.wpT_exact; · (intro w' hC hf; unfold RG.Gives; clear hf hC; go_wp2_with (fail); apply RG.postT_val rfl (Grow.refl _); simp only [RG.valAt, Array.getD_eq_getD_getElem?, List.getElem?_toArray, List.getElem?_cons_succ, List.getElem?_cons_zero, Option.getD_some]; exact rfl)); (try simp only [Act.put, List.setIfInBounds_toArray, List.set_cons_zero, List.set_cons_succ])
            (apply RG.wpT_exact; · (intro w' hC hf; unfold RG.Gives; have q := (H.out.turn hC).box (.tail _ (.tail _ (.head _))); have q0 := q.cell 0; (simp at q0); clear q; clear hf hC; go_wp2_with (fail); apply RG.postT_val rfl (Grow.refl _); simp only [RG.valAt, Array.getD_eq_getD_getElem?, List.getElem?_toArray, List.getElem?_cons_succ, List.getElem?_cons_zero, Option.getD_some]; exact rfl)); (try simp only [Act.put, List.setIfInBounds_toArray, List.set_cons_zero, List.set_cons_succ])
            (apply RG.wpT_exact; · (intro w' hC hf; unfold RG.Gives; clear hf hC; go_wp2_with (fail); apply RG.postT_val rfl (Grow.refl _); simp only [RG.valAt, Array.getD_eq_getD_getElem?, List.getElem?_toArray, List.getElem?_cons_succ, List.getElem?_cons_zero, Option.getD_some]; exact rfl)); (try simp only [Act.put, List.setIfInBounds_toArray, List.set_cons_zero, List.set_cons_succ])
            (apply RG.wpT_exact; · (intro w' hC hf; unfold RG.Gives; clear hf hC; go_wp2_with (fail); apply RG.postT_val rfl (Grow.refl _); simp only [RG.valAt, Array.getD_eq_getD_getElem?, List.getElem?_toArray, List.getElem?_cons_succ, List.getElem?_cons_zero, Option.getD_some]; exact rfl)); (try simp only [Act.put, List.setIfInBounds_toArray, List.set_cons_zero, List.set_cons_succ])
            (apply RG.wpT_exact; · (intro w' hC hf; unfold RG.Gives; clear hf hC; go_wp2_with (fail); apply RG.postT_val rfl (Grow.refl _); simp only [RG.valAt, Array.getD_eq_getD_getElem?, List.getElem?_toArray, List.getElem?_cons_succ, List.getElem?_cons_zero, Option.getD_some]; exact rfl)); (try simp only [Act.put, List.setIfInBounds_toArray, List.set_cons_zero, List.set_cons_succ])
            (apply RG.wpT_exact; · (intro w' hC hf; unfold RG.Gives; have q := (H.out.turn hC).box (.tail _ (.tail _ (.head _))); have q0 := q.cell 0; (simp at q0); clear q; clear hf hC; go_wp2_with (fail); apply RG.postT_val rfl (Grow.refl _); simp only [RG.valAt, Array.getD_eq_getD_getElem?, List.getElem?_toArray, List.getElem?_cons_succ, List.getElem?_cons_zero, Option.getD_some]; exact rfl)); (try simp only [Act.put, List.setIfInBounds_toArray, List.set_cons_zero, List.set_cons_succ])
            (apply RG.wpT_exact; · (intro w' hC hf; unfold RG.Gives; clear hf hC; go_wp2_with (fail); apply RG.postT_val rfl (Grow.refl _); simp only [RG.valAt, Array.getD_eq_getD_getElem?, List.getElem?_toArray, List.getElem?_cons_succ, List.getElem?_cons_zero, Option.getD_some]; exact rfl)); (try simp only [Act.put, List.setIfInBounds_toArray, List.set_cons_zero, List.set_cons_succ])
            (apply RG.wpT_exact; · (intro w' hC hf; unfold RG.Gives; have q := (H.out.turn hC).box (.head _); have q4 := q.cell 4; (simp at q4); clear q; clear hf hC; go_wp2_with (fail); apply RG.postT_val rfl (Grow.refl _); simp only [RG.valAt, Array.getD_eq_getD_getElem?, List.getElem?_toArray, List.getElem?_cons_succ, List.getElem?_cons_zero, Option.getD_some]; exact rfl)); (try simp only [Act.put, List.setIfInBounds_toArray, List.set_cons_zero, List.set_cons_succ])
            (apply RG.wpT_exact; · (intro w' hC hf; unfold RG.Gives; clear hf hC; go_wp2_with (fail); apply RG.postT_val rfl (Grow.refl _); simp only [RG.valAt, Array.getD_eq_getD_getElem?, List.getElem?_toArray, List.getElem?_cons_succ, List.getElem?_cons_zero, Option.getD_some]; exact rfl)); (try simp only [Act.put, List.setIfInBounds_toArray, List.set_cons_zero, List.set_cons_succ])
            apply RG.wpT_typed (T := fun v _ => ∃ z : Nat, v = .int .i64 (z : Int) ∧ z < 12) (fun v w w' h _ => h)
            · intro w' hC hf; unfold RG.Gives; clear hf
              go_wp2_with fail
              go_at_call 26
              refine ((H.out.turn hC).take 12 (by omega) (by omega)).mono ?_
              rintro e w3 ⟨v, rfl, v1, v2, hr⟩
              obtain ⟨z, rfl⟩ : ∃ z' : Nat, v = z' := ⟨v.toNat, by omega⟩
              go_wp2_with fail
              refine RG.postT_mk rfl hr ?_; simp only [RG.valAt, Array.getD_eq_getD_getElem?, List.getElem?_toArray, List.getElem?_cons_succ, List.getElem?_cons_zero, Option.getD_some]; exact ⟨z, rfl, by omega⟩
            intro v52; (try simp only [Act.put, List.setIfInBounds_toArray, List.set_cons_zero, List.set_cons_succ])
            apply RG.wpT_typed (T := fun v _ => ∃ z : Nat, v = .int .i64 (flo + (z : Int)) ∧ z < 12) (fun v w w' h _ => h)
            · intro w' hC hf; unfold RG.Gives; obtain ⟨z, rfl, z1⟩ := hf.1 rfl; clear hf hC
              go_wp2_with fail
              refine RG.postT_mk rfl (Grow.refl _) ?_; simp only [RG.valAt, Array.getD_eq_getD_getElem?, List.getElem?_toArray, List.getElem?_cons_succ, List.getElem?_cons_zero, Option.getD_some]; exact ⟨z, rfl, z1⟩
            intro v53; (try simp only [Act.put, List.setIfInBounds_toArray, List.set_cons_zero, List.set_cons_succ])
            apply RG.wpT_typed (T := fun v _ => ∃ z : Nat, v = .agg #[.string (Sg.bmost ++ nm.extract 0 1), .string nm, .string Sg.bsz, .string Sg.be, .int .i64 (flo + (z : Int))] ∧ z < 12) (fun v w w' h _ => h)
            · intro w' hC hf; unfold RG.Gives; obtain ⟨z, rfl, z1⟩ := hf.1 rfl; clear hf hC
              go_wp2_with fail
              refine RG.postT_mk rfl (Grow.refl _) ?_; simp only [RG.valAt, Array.getD_eq_getD_getElem?, List.getElem?_toArray, List.getElem?_cons_succ, List.getElem?_cons_zero, Option.getD_some]; exact ⟨z, rfl, z1⟩
            intro v54; (try simp only [Act.put, List.setIfInBounds_toArray, List.set_cons_zero, List.set_cons_succ])
            apply RG.wpT_done
            intro w4 hC hall
            obtain ⟨z, rfl, z1⟩ := hall.1
            have T := Lib.hid (H.out.turn hC)
            have q := T.out.box (.tail _ (.head _)); have f0 := q.frozen 0; have f1 := q.frozen 1; have f2 := q.frozen 2; have f3 := q.frozen 3; have f4 := q.frozen 4; have q0 := q.cell 0; have q1 := q.cell 1; have q2 := q.cell 2; have q3 := q.cell 3; have q4 := q.cell 4; (simp at q0 q1 q2 q3 q4); clear q
            clear hall hC H this
            go_wp2_with fail
            go_meet
            case rel =>
              refine ⟨rfl, (Sg.bmost ++ nm.extract 0 1, nm, Sg.bsz, Sg.be, flo + (z : Int)), ?_, _, (((((T.out.swap.set0 0 _).set0 1 _).set0 2 _).set0 3 _).set0 4 _).swap.unbox⟩
              have := Sg.Rule.most (k := k) i hi' (z : Int) HIE.out (by omega) (by omega)
              rw [HNM.out, HF.out, HFL.out] at this
              exact this
          case rest =>
            obtain ⟨rfl, r, hr, M9, H9⟩ := hcut
            have q := H9.box (.head _); have q0 := q.cell 0; have q1 := q.cell 1; have q2 := q.cell 2; have q3 := q.cell 3; have q4 := q.cell 4; (simp [rulCells] at q0 q1 q2 q3 q4); clear q
            have H8 := Lib.hid H9.unbox.unbox.tail
            have HR := Lib.hid hr
            clear H9 hr
            rename_i hK
            apply hK
            refine wp_ret ?_
            (try simp only [Exit.then])
            refine bodyPost_ret (v := .tuple #[.agg (rulCells r), .bool true]) ?_ rfl ?_
            · simp [results, Tryz.results28, go_sem, q0, q1, q2, q3, q4, rulCells]
              try rfl
            · exact ⟨r, true, M9, rfl, HR.out, H8.out⟩
        · have t2 : (v == 0) = false := by rw [beq_eq_false_iff_ne]; exact hv
          go_upto_region 10 with fail
          go_cut [5] from 6 (fun v5 w' => v5 = .bool true ∧ ∃ r, Sg.Rule k r true ∧ ∃ M, MkH K M ((rb, 58, rulCells r) :: (kb, 49, #[.string nm, .int .i64 lo, .int .i64 hi, .slice (some ⟨b1, o1, none⟩) n c]) :: bx) rs ((fun M W => SlAt M W (some ⟨b1, o1, none⟩) (Sc.flds k)) :: L) w')
          case first =>
            obtain ⟨wo, rfl⟩ : ∃ wo : World, wo = w5 := ⟨_, rfl⟩
            letI : Grow := K.grow
            apply RG.wp_region_typed (C := fun w' => K.R wo w') (n := 67) (m := 12) (l1 := [_, _, _, _, _, _, _, _, _, _, _, _]) (l2 := [_, _])
            · rfl
            · rfl
            · kernel_rfl
            · rfl
            · kernel_rfl
            · exact K.drew wo
            · exact fun u u' h hb => h.trans hb
            (apply RG.wpT_exact; · (intro w' hC hf; unfold RG.Gives; clear hf hC; go_wp2_with (fail); apply RG.postT_val rfl (Grow.refl _); simp only [RG.valAt, Array.getD_eq_getD_getElem?, List.getElem?_toArray, List.getElem?_cons_succ, List.getElem?_cons_zero, Option.getD_some]; exact rfl)); (try simp only [Act.put, List.setIfInBounds_toArray, List.set_cons_zero, List.set_cons_succ])
            (apply RG.wpT_exact; · (intro w' hC hf; unfold RG.Gives; have q := (H.out.turn hC).box (.tail _ (.tail _ (.head _))); have q0 := q.cell 0; (simp at q0); clear q; clear hf hC; go_wp2_with (fail); apply RG.postT_val rfl (Grow.refl _); simp only [RG.valAt, Array.getD_eq_getD_getElem?, List.getElem?_toArray, List.getElem?_cons_succ, List.getElem?_cons_zero, Option.getD_some]; exact rfl)); (try simp only [Act.put, List.setIfInBounds_toArray, List.set_cons_zero, List.set_cons_succ])
            (apply RG.wpT_exact; · (intro w' hC hf; unfold RG.Gives; clear hf hC; go_wp2_with (fail); apply RG.postT_val rfl (Grow.refl _); simp only [RG.valAt, Array.getD_eq_getD_getElem?, List.getElem?_toArray, List.getElem?_cons_succ, List.getElem?_cons_zero, Option.getD_some]; exact rfl)); (try simp only [Act.put, List.setIfInBounds_toArray, List.set_cons_zero, List.set_cons_succ])
            (apply RG.wpT_exact; · (intro w' hC hf; unfold RG.Gives; clear hf hC; go_wp2_with (fail); apply RG.postT_val rfl (Grow.refl _); simp only [RG.valAt, Array.getD_eq_getD_getElem?, List.getElem?_toArray, List.getElem?_cons_succ, List.getElem?_cons_zero, Option.getD_some]; exact rfl)); (try simp only [Act.put, List.setIfInBounds_toArray, List.set_cons_zero, List.set_cons_succ])
            (apply RG.wpT_exact; · (intro w' hC hf; unfold RG.Gives; clear hf hC; go_wp2_with (fail); apply RG.postT_val rfl (Grow.refl _); simp only [RG.valAt, Array.getD_eq_getD_getElem?, List.getElem?_toArray, List.getElem?_cons_succ, List.getElem?_cons_zero, Option.getD_some]; exact rfl)); (try simp only [Act.put, List.setIfInBounds_toArray, List.set_cons_zero, List.set_cons_succ])
            (apply RG.wpT_exact; · (intro w' hC hf; unfold RG.Gives; have q := (H.out.turn hC).box (.tail _ (.tail _ (.head _))); have q0 := q.cell 0; (simp at q0); clear q; clear hf hC; go_wp2_with (fail); apply RG.postT_val rfl (Grow.refl _); simp only [RG.valAt, Array.getD_eq_getD_getElem?, List.getElem?_toArray, List.getElem?_cons_succ, List.getElem?_cons_zero, Option.getD_some]; exact rfl)); (try simp only [Act.put, List.setIfInBounds_toArray, List.set_cons_zero, List.set_cons_succ])
            (apply RG.wpT_exact; · (intro w' hC hf; unfold RG.Gives; clear hf hC; go_wp2_with (fail); apply RG.postT_val rfl (Grow.refl _); simp only [RG.valAt, Array.getD_eq_getD_getElem?, List.getElem?_toArray, List.getElem?_cons_succ, List.getElem?_cons_zero, Option.getD_some]; exact rfl)); (try simp only [Act.put, List.setIfInBounds_toArray, List.set_cons_zero, List.set_cons_succ])
            apply RG.wpT_typed (T := fun v _ => ∃ z : Nat, v = .int .i64 (z : Int) ∧ z < 12) (fun v w w' h _ => h)
            · intro w' hC hf; unfold RG.Gives; clear hf
              go_wp2_with fail
              go_at_call 26
              refine ((H.out.turn hC).take 12 (by omega) (by omega)).mono ?_
              rintro e w3 ⟨v, rfl, v1, v2, hr⟩
              obtain ⟨z, rfl⟩ : ∃ z' : Nat, v = z' := ⟨v.toNat, by omega⟩
              go_wp2_with fail
              refine RG.postT_mk rfl hr ?_; simp only [RG.valAt, Array.getD_eq_getD_getElem?, List.getElem?_toArray, List.getElem?_cons_succ, List.getElem?_cons_zero, Option.getD_some]; exact ⟨z, rfl, by omega⟩
            intro v62; (try simp only [Act.put, List.setIfInBounds_toArray, List.set_cons_zero, List.set_cons_succ])
            (apply RG.wpT_exact; · (intro w' hC hf; unfold RG.Gives; clear hf hC; go_wp2_with (fail); apply RG.postT_val rfl (Grow.refl _); simp only [RG.valAt, Array.getD_eq_getD_getElem?, List.getElem?_toArray, List.getElem?_cons_succ, List.getElem?_cons_zero, Option.getD_some]; exact rfl)); (try simp only [Act.put, List.setIfInBounds_toArray, List.set_cons_zero, List.set_cons_succ])
            (apply RG.wpT_exact; · (intro w' hC hf; unfold RG.Gives; have q := (H.out.turn hC).box (.head _); have q5 := q.cell 5; (simp at q5); clear q; clear hf hC; go_wp2_with (fail); apply RG.postT_val rfl (Grow.refl _); simp only [RG.valAt, Array.getD_eq_getD_getElem?, List.getElem?_toArray, List.getElem?_cons_succ, List.getElem?_cons_zero, Option.getD_some]; exact rfl)); (try simp only [Act.put, List.setIfInBounds_toArray, List.set_cons_zero, List.set_cons_succ])
            apply RG.wpT_typed (T := fun v _ => ∃ z : Nat, v = .int .i64 ((z : Int) - fhi) ∧ z < 12) (fun v w w' h _ => h)
            · intro w' hC hf; unfold RG.Gives; obtain ⟨z, rfl, z1⟩ := hf.1 rfl; clear hf hC
              go_wp2_with fail
              refine RG.postT_mk rfl (Grow.refl _) ?_; simp only [RG.valAt, Array.getD_eq_getD_getElem?, List.getElem?_toArray, List.getElem?_cons_succ, List.getElem?_cons_zero, Option.getD_some]; exact ⟨z, rfl, z1⟩
            intro v65; (try simp only [Act.put, List.setIfInBounds_toArray, List.set_cons_zero, List.set_cons_succ])
            apply RG.wpT_typed (T := fun v _ => ∃ z : Nat, v = .agg #[.string (Sg.bleast ++ nm.extract 0 1), .string nm, .string Sg.be, .string Sg.bsz, .int .i64 ((z : Int) - fhi)] ∧ z < 12) (fun v w w' h _ => h)
            · intro w' hC hf; unfold RG.Gives; obtain ⟨z, rfl, z1⟩ := hf.1 rfl; clear hf hC
              go_wp2_with fail
              refine RG.postT_mk rfl (Grow.refl _) ?_; simp only [RG.valAt, Array.getD_eq_getD_getElem?, List.getElem?_toArray, List.getElem?_cons_succ, List.getElem?_cons_zero, Option.getD_some]; exact ⟨z, rfl, z1⟩
            intro v66; (try simp only [Act.put, List.setIfInBounds_toArray, List.set_cons_zero, List.set_cons_succ])
            apply RG.wpT_done
            intro w4 hC hall
            obtain ⟨z, rfl, z1⟩ := hall.1
            have T := Lib.hid (H.out.turn hC)
            have q := T.out.box (.tail _ (.head _)); have f0 := q.frozen 0; have f1 := q.frozen 1; have f2 := q.frozen 2; have f3 := q.frozen 3; have f4 := q.frozen 4; have q0 := q.cell 0; have q1 := q.cell 1; have q2 := q.cell 2; have q3 := q.cell 3; have q4 := q.cell 4; (simp at q0 q1 q2 q3 q4); clear q
            clear hall hC H this
            go_wp2_with fail
            go_meet
            case rel =>
              refine ⟨rfl, (Sg.bleast ++ nm.extract 0 1, nm, Sg.be, Sg.bsz, (z : Int) - fhi), ?_, _, (((((T.out.swap.set0 0 _).set0 1 _).set0 2 _).set0 3 _).set0 4 _).swap.unbox⟩
              have := Sg.Rule.least (k := k) i hi' (z : Int) HIE.out (by omega) (by omega)
              rw [HNM.out, HF.out, HFH.out] at this
              exact this
          case rest =>
            obtain ⟨rfl, r, hr, M9, H9⟩ := hcut
            have q := H9.box (.head _); have q0 := q.cell 0; have q1 := q.cell 1; have q2 := q.cell 2; have q3 := q.cell 3; have q4 := q.cell 4; (simp [rulCells] at q0 q1 q2 q3 q4); clear q
            have H8 := Lib.hid H9.unbox.unbox.tail
            have HR := Lib.hid hr
            clear H9 hr
            rename_i hK
            apply hK
            refine wp_ret ?_
            (try simp only [Exit.inBlock, Exit.then])
            refine bodyPost_ret (v := .tuple #[.agg (rulCells r), .bool true]) ?_ rfl ?_
            · simp [results, Tryz.results28, go_sem, q0, q1, q2, q3, q4, rulCells]
              try rfl
            · exact ⟨r, true, M9, rfl, HR.out, H8.out⟩
    · have HB := Lib.hid (show 0 ≤ Sc.ix (Sc.named Sg.blow) (Sc.flds k) by rw [HIL.out]; exact hb rfl)
      clear hb
      go_upto_region 4 with fail
      go_cut [5] from 6 (fun v5 w' => v5 = .bool true ∧ ∃ r, Sg.Rule k r true ∧ ∃ M, MkH K M ((rb, 58, rulCells r) :: (kb, 49, #[.string nm, .int .i64 lo, .int .i64 hi, .slice A n c]) :: bx) rs ((fun M W => SlAt M W A (Sc.flds k)) :: L) w')
      case first =>
        obtain ⟨wo, rfl⟩ : ∃ wo : World, wo = wc := ⟨_, rfl⟩
        letI : Grow := K.grow
        apply RG.wp_region_typed (C := fun w' => K.R wo w') (n := 67) (m := 10) (l1 := [_, _, _, _, _, _, _, _, _, _]) (l2 := [_, _])
        · rfl
        · rfl
        · kernel_rfl
        · rfl
        · kernel_rfl
        · exact K.drew wo
        · exact fun u u' h hb => h.trans hb
        (apply RG.wpT_exact; · (intro w' hC hf; unfold RG.Gives; clear hf hC; go_wp2_with (fail); apply RG.postT_val rfl (Grow.refl _); simp only [RG.valAt, Array.getD_eq_getD_getElem?, List.getElem?_toArray, List.getElem?_cons_succ, List.getElem?_cons_zero, Option.getD_some]; exact rfl)); (try simp only [Act.put, List.setIfInBounds_toArray, List.set_cons_zero, List.set_cons_succ])
        (apply RG.wpT_exact; · (intro w' hC hf; unfold RG.Gives; have q := (H.out.turn hC).box (.tail _ (.head _)); have q0 := q.cell 0; (simp at q0); clear q; clear hf hC; go_wp2_with (fail); apply RG.postT_val rfl (Grow.refl _); simp only [RG.valAt, Array.getD_eq_getD_getElem?, List.getElem?_toArray, List.getElem?_cons_succ, List.getElem?_cons_zero, Option.getD_some]; exact rfl)); (try simp only [Act.put, List.setIfInBounds_toArray, List.set_cons_zero, List.set_cons_succ])
        (apply RG.wpT_exact; · (intro w' hC hf; unfold RG.Gives; clear hf hC; go_wp2_with (fail); apply RG.postT_val rfl (Grow.refl _); simp only [RG.valAt, Array.getD_eq_getD_getElem?, List.getElem?_toArray, List.getElem?_cons_succ, List.getElem?_cons_zero, Option.getD_some]; exact rfl)); (try simp only [Act.put, List.setIfInBounds_toArray, List.set_cons_zero, List.set_cons_succ])
        (apply RG.wpT_exact; · (intro w' hC hf; unfold RG.Gives; clear hf hC; go_wp2_with (fail); apply RG.postT_val rfl (Grow.refl _); simp only [RG.valAt, Array.getD_eq_getD_getElem?, List.getElem?_toArray, List.getElem?_cons_succ, List.getElem?_cons_zero, Option.getD_some]; exact rfl)); (try simp only [Act.put, List.setIfInBounds_toArray, List.set_cons_zero, List.set_cons_succ])
        (apply RG.wpT_exact; · (intro w' hC hf; unfold RG.Gives; clear hf hC; go_wp2_with (fail); apply RG.postT_val rfl (Grow.refl _); simp only [RG.valAt, Array.getD_eq_getD_getElem?, List.getElem?_toArray, List.getElem?_cons_succ, List.getElem?_cons_zero, Option.getD_some]; exact rfl)); (try simp only [Act.put, List.setIfInBounds_toArray, List.set_cons_zero, List.set_cons_succ])
        (apply RG.wpT_exact; · (intro w' hC hf; unfold RG.Gives; have q := (H.out.turn hC).box (.tail _ (.head _)); have q0 := q.cell 0; (simp at q0); clear q; clear hf hC; go_wp2_with (fail); apply RG.postT_val rfl (Grow.refl _); simp only [RG.valAt, Array.getD_eq_getD_getElem?, List.getElem?_toArray, List.getElem?_cons_succ, List.getElem?_cons_zero, Option.getD_some]; exact rfl)); (try simp only [Act.put, List.setIfInBounds_toArray, List.set_cons_zero, List.set_cons_succ])
        (apply RG.wpT_exact; · (intro w' hC hf; unfold RG.Gives; clear hf hC; go_wp2_with (fail); apply RG.postT_val rfl (Grow.refl _); simp only [RG.valAt, Array.getD_eq_getD_getElem?, List.getElem?_toArray, List.getElem?_cons_succ, List.getElem?_cons_zero, Option.getD_some]; exact rfl)); (try simp only [Act.put, List.setIfInBounds_toArray, List.set_cons_zero, List.set_cons_succ])
        apply RG.wpT_typed (T := fun v _ => ∃ z : Nat, v = .int .i64 (z : Int) ∧ z < 8) (fun v w w' h _ => h)
        · intro w' hC hf; unfold RG.Gives; clear hf
          go_wp2_with fail
          go_at_call 26
          refine ((H.out.turn hC).take 8 (by omega) (by omega)).mono ?_
          rintro e w3 ⟨v, rfl, v1, v2, hr⟩
          obtain ⟨z, rfl⟩ : ∃ z' : Nat, v = z' := ⟨v.toNat, by omega⟩
          go_wp2_with fail
          refine RG.postT_mk rfl hr ?_; simp only [RG.valAt, Array.getD_eq_getD_getElem?, List.getElem?_toArray, List.getElem?_cons_succ, List.getElem?_cons_zero, Option.getD_some]; exact ⟨z, rfl, by omega⟩
        intro v29; (try simp only [Act.put, List.setIfInBounds_toArray, List.set_cons_zero, List.set_cons_succ])
        apply RG.wpT_typed (T := fun v _ => ∃ z : Nat, v = .int .i64 ((z : Int) - 2) ∧ z < 8) (fun v w w' h _ => h)
        · intro w' hC hf; unfold RG.Gives; obtain ⟨z, rfl, z1⟩ := hf.1 rfl; clear hf hC
          go_wp2_with fail
          refine RG.postT_mk rfl (Grow.refl _) ?_; simp only [RG.valAt, Array.getD_eq_getD_getElem?, List.getElem?_toArray, List.getElem?_cons_succ, List.getElem?_cons_zero, Option.getD_some]; exact ⟨z, rfl, z1⟩
        intro v30; (try simp only [Act.put, List.setIfInBounds_toArray, List.set_cons_zero, List.set_cons_succ])
        apply RG.wpT_typed (T := fun v _ => ∃ z : Nat, v = .agg #[.string (Sg.border ++ nm.extract 0 1), .string nm, .string Sg.blow, .string Sg.bhigh, .int .i64 ((z : Int) - 2)] ∧ z < 8) (fun v w w' h _ => h)
        · intro w' hC hf; unfold RG.Gives; obtain ⟨z, rfl, z1⟩ := hf.1 rfl; clear hf hC
          go_wp2_with fail
          refine RG.postT_mk rfl (Grow.refl _) ?_; simp only [RG.valAt, Array.getD_eq_getD_getElem?, List.getElem?_toArray, List.getElem?_cons_succ, List.getElem?_cons_zero, Option.getD_some]; exact ⟨z, rfl, z1⟩
        intro v31; (try simp only [Act.put, List.setIfInBounds_toArray, List.set_cons_zero, List.set_cons_succ])
        apply RG.wpT_done
        intro w4 hC hall
        obtain ⟨z, rfl, z1⟩ := hall.1
        have T := Lib.hid (H.out.turn hC)
        have q := T.out.box (.head _); have f0 := q.frozen 0; have f1 := q.frozen 1; have f2 := q.frozen 2; have f3 := q.frozen 3; have f4 := q.frozen 4; have q0 := q.cell 0; have q1 := q.cell 1; have q2 := q.cell 2; have q3 := q.cell 3; have q4 := q.cell 4; (simp at q0 q1 q2 q3 q4); clear q
        clear hall hC H this
        go_wp2_with fail
        go_meet
        case rel =>
          refine ⟨rfl, (Sg.border ++ nm.extract 0 1, nm, Sg.blow, Sg.bhigh, (z : Int) - 2), ?_, _, ((((T.out.set0 0 _).set0 1 _).set0 2 _).set0 3 _).set0 4 _⟩
          have := Sg.Rule.low (k := k) (z : Int) HB.out (by omega) (by omega)
          rw [HNM.out] at this
          exact this
      case rest =>
        obtain ⟨rfl, r, hr, M9, H9⟩ := hcut
        have q := H9.box (.head _); have q0 := q.cell 0; have q1 := q.cell 1; have q2 := q.cell 2; have q3 := q.cell 3; have q4 := q.cell 4; (simp [rulCells] at q0 q1 q2 q3 q4); clear q
        have H8 := Lib.hid H9.unbox.unbox.tail
        have HR := Lib.hid hr
        clear H9 hr
        rename_i hK
        apply hK
        refine wp_ret ?_
        (try simp only [Exit.then])
        refine bodyPost_ret (v := .tuple #[.agg (rulCells r), .bool true]) ?_ rfl ?_
        · simp [results, Tryz.results28, go_sem, q0, q1, q2, q3, q4, rulCells]
          try rfl
        · exact ⟨r, true, M9, rfl, HR.out, H8.out⟩
end Go.Proofs.YtmplaikgbeeikaaGreatDoor
