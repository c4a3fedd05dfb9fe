/- ref09.Schema: the loop of rules. -/
import Derived.Test.YtdpcdocaahjeoaaDoorM11
import Derived.Test.YtdpcdocaahjeoaaDoorW44
namespace Go.Proofs.YtdpcdocaahjeoaaDoor
open Go Go.RowKit
/-- A block, found in a function's code. -/
def blkAt (t : Nat) : Code → Option Code
  | .cond _ a b => match blkAt t a with
    | some c => some c
    | none => blkAt t b
  | .seq a b => match blkAt t a with
    | some c => some c
    | none => blkAt t b
  | .loop c => blkAt t c
  | .block k c => if k = t then some (.block k c) else blkAt t c
  | .scope c => blkAt t c
  | _ => none
noncomputable def schAt (t : Nat) : Code := ((Tryd.f9.body.bind (blkAt t)).getD .skip)
set_option maxRecDepth 1000000 in
set_option maxHeartbeats 100000000 in
theorem sch_rules {K : MkK} {xb rb nk n c : Nat} {A : Option Addr} {ver : Int} {ks : List Knd} {lf : Lif} {wc : World} {u6 u7 u8 u9 u13 u14 u15 u16 u17 u18 u19 u20 u21 u22 u23 u24 u25 u26 u27 u28 u29 u30 u31 u32 u33 u34 u35 u36 u37 u38 u39 u40 u41 u42 u43 u44 u45 u46 u47 u48 u49 u50 u51 u52 u53 u54 u55 u56 u57 u58 u59 u60 u61 u62 u63 u64 u65 u66 u67 u68 u69 u70 u71 u72 u73 u74 u75 u76 u77 u78 u79 u80 u81 u82 u83 u84 u85 u86 u87 u88 u89 u90 u91 u92 u93 u94 u95 u96 u97 u98 u99 u100 u101 u102 u103 u104 u105 u106 u107 u108 u109 u110 u111 u112 u113 u114 u115 u116 u117 u118 : Value} {J K' : Act → World → Prop} {Q' : Exit → Act → World → Prop}
    (HKS : Hid (Sg.Kinds ks)) (HKL : Hid (ks.length = nk)) (hk3 : nk ≤ 3) (hst : RSt K xb rb ver ks lf [] wc)
    (hJ : ∀ (a' : Act) (w' : World), (∃ u10 u11 u12 u13 u14 u15 u16 u17 u18 u19 u20 u21 u22 u23 u24 u25 u26 u27 u28 u29 u30 u31 u32 u33 u34 u35 u36 u37 u38 u39 u40 u41 u42 u43 u44 u45 u46 u47 u48 u49 u50 u51 u52 u53 u54 u55 u56 u57 u58 u59 u60 u61 u62 u63 u64 u65 u66 u67 u68 u69 u70 u71 u72 u73 u74 u75 u76 u77 u78 u79 u80 u81 u82 u83 u84 u85 u86 u87 u88 u89 u90 u91 u92 u93 u94 u95 u96 u97 u98 u99 u100 u101 u102 u103 u104 u105 u106 u107 u108 u109 u110 u111 u112 u113 u114 u115 u116 u117 u118, (∃ i rls, Sg.Rules ks i rls ∧ (i = ks.length ∨ rls.length = 2) ∧ RSt K xb rb ver ks lf rls w') ∧ a' = ⟨(.slice A n c :: undef :: .pointer (some ⟨rb, 0, none⟩) :: K.p :: .pointer (some ⟨xb, 0, none⟩) :: .int .i64 nk :: u6 :: u7 :: u8 :: u9 :: u10 :: u11 :: u12 :: u13 :: u14 :: u15 :: u16 :: u17 :: u18 :: u19 :: u20 :: u21 :: u22 :: u23 :: u24 :: u25 :: u26 :: u27 :: u28 :: u29 :: u30 :: u31 :: u32 :: u33 :: u34 :: u35 :: u36 :: u37 :: u38 :: u39 :: u40 :: u41 :: u42 :: u43 :: u44 :: u45 :: u46 :: u47 :: u48 :: u49 :: u50 :: u51 :: u52 :: u53 :: u54 :: u55 :: u56 :: u57 :: u58 :: u59 :: u60 :: u61 :: u62 :: u63 :: u64 :: u65 :: u66 :: u67 :: u68 :: u69 :: u70 :: u71 :: u72 :: u73 :: u74 :: u75 :: u76 :: u77 :: u78 :: u79 :: u80 :: u81 :: u82 :: u83 :: u84 :: u85 :: u86 :: u87 :: u88 :: u89 :: u90 :: u91 :: u92 :: u93 :: u94 :: u95 :: u96 :: u97 :: u98 :: u99 :: u100 :: u101 :: u102 :: u103 :: u104 :: u105 :: u106 :: u107 :: u108 :: u109 :: u110 :: u111 :: u112 :: u113 :: u114 :: u115 :: u116 :: u117 :: u118 :: []).toArray, []⟩) → J a' w')
    (hM : ∀ (a' : Act) (w' : World), Met J a' w' → K' a' w') :
    Code.wp Tryd.prog (schAt 4) (Exit.then K' Q') ⟨(.slice A n c :: undef :: .pointer (some ⟨rb, 0, none⟩) :: K.p :: .pointer (some ⟨xb, 0, none⟩) :: .int .i64 nk :: u6 :: u7 :: u8 :: u9 :: .int .i64 0 :: undef :: undef :: u13 :: u14 :: u15 :: u16 :: u17 :: u18 :: u19 :: u20 :: u21 :: u22 :: u23 :: u24 :: u25 :: u26 :: u27 :: u28 :: u29 :: u30 :: u31 :: u32 :: u33 :: u34 :: u35 :: u36 :: u37 :: u38 :: u39 :: u40 :: u41 :: u42 :: u43 :: u44 :: u45 :: u46 :: u47 :: u48 :: u49 :: u50 :: u51 :: u52 :: u53 :: u54 :: u55 :: u56 :: u57 :: u58 :: u59 :: u60 :: u61 :: u62 :: u63 :: u64 :: u65 :: u66 :: u67 :: u68 :: u69 :: u70 :: u71 :: u72 :: u73 :: u74 :: u75 :: u76 :: u77 :: u78 :: u79 :: u80 :: u81 :: u82 :: u83 :: u84 :: u85 :: u86 :: u87 :: u88 :: u89 :: u90 :: u91 :: u92 :: u93 :: u94 :: u95 :: u96 :: u97 :: u98 :: u99 :: u100 :: u101 :: u102 :: u103 :: u104 :: u105 :: u106 :: u107 :: u108 :: u109 :: u110 :: u111 :: u112 :: u113 :: u114 :: u115 :: u116 :: u117 :: u118 :: []).toArray, []⟩ wc := by
  conv => arg 2; whnf
  obtain ⟨M5, kv, kxs, lv, lxs, rv, rxs, HT⟩ := hst
  have H := Lib.hid HT
  clear HT
  go_wp2_with fail
  go_loopg [10] nk (fun r i wr => ∃ (j : Nat) (rls : List Rul), j + r = nk ∧ i = .int .i64 j ∧ rls.length ≤ 2 ∧ Sg.Rules ks j rls ∧ RSt K xb rb ver ks lf rls wr)
  case atStart => exact ⟨0, [], by omega, rfl, by simp, .nil, _, kv, kxs, lv, lxs, rv, rxs, H.out⟩
  case round =>
    obtain ⟨j, rls, hj, rfl, hrl, hrules, M5, kv, kxs, lv, lxs, rv, rxs, HT⟩ := hrel
    clear H
    have HRU := Lib.hid hrules
    clear hrules
    obtain ⟨wo, rfl⟩ : ∃ wo : World, wo = wr := ⟨_, rfl⟩
    obtain ⟨Ar, cr, rfl⟩ := HT.form
    have q := HT.box (.head _); have q1 := q.cell 1; have q3 := q.cell 3; (simp at q1 q3); clear q
    obtain ⟨nr, hnr⟩ : ∃ x, rls.length = x := ⟨_, rfl⟩
    have HT' := HT
    rw [hnr] at HT' q3 hrl
    have HNR := Lib.hid hnr
    have H := Lib.hid HT
    have H' := Lib.hid HT'
    clear HT HT' hnr
    by_cases hlt : j < nk
    · by_cases hr2 : nr < 2
      · have hjk : j < ks.length := by rw [HKL.out]; exact hlt
        have hok := HKS.out.ok (by have := HKL.out; omega) _ (List.getElem_mem hjk)
        have hk0 : 0 < ks.length := by omega
        obtain ⟨Ak, ck, rfl⟩ := H'.out.vform (.tail _ (.tail _ (.head _)))
        obtain ⟨g, rfl⟩ := H'.out.rform (.tail _ (.tail _ (.head _))) hk0
        obtain ⟨B, cB, g0, g1, g2, g3, s1, s2, s3, _⟩ := flat_knd (H'.out.fact (.tail _ (.tail _ (.head _)))) j hjk
        have y0 := H'.out.rcell (.tail _ (.tail _ (.head _))) hk0 g0
        have y1 := H'.out.rcell (.tail _ (.tail _ (.head _))) hk0 g1
        have y2 := H'.out.rcell (.tail _ (.tail _ (.head _))) hk0 g2
        have y3 := H'.out.rcell (.tail _ (.tail _ (.head _))) hk0 g3
        obtain ⟨k, hk⟩ : ∃ k, ks[j] = k := ⟨_, rfl⟩
        rw [hk] at y0 y1 y2 y3 s1 s2 hok
        have HK := Lib.hid hk
        have HOK := Lib.hid hok
        have CR := Lib.hid (grule_any H'.out s1 (by rcases hok.len with h | h <;> omega) hok.n1 hok.n2 hok.bd (c := cB))
        clear g0 g1 g2 g3 s1 s2 s3 hok hk H
        rw [HKL.out] at q1
        have k1 : (j : Int) < (nk : Int) := by omega
        have k2 : (nr : Int) < 2 := by omega
        go_upto_region 23 with (go_at_call 34; (refine CR.out.mono ?_); rintro e w6 ⟨r, b, M6, rfl, hrule, HP⟩; unfold rulCells; have H2 := Lib.hid HP; have HRL := Lib.hid hrule; clear HP hrule)
        have H3 := Lib.hid (H2.out.new #[.string r.1, .string r.2.1, .string r.2.2.1, .string r.2.2.2.1, .int .i64 r.2.2.2.2] 91 rfl)
        clear H2 CR y0 y1 y2 y3 q1 q3
        generalize hW6 : w6.alloc _ = W6 at H3 ⊢
        generalize w6.heap.size = lb6 at H3 ⊢
        clear hW6
        have q := H3.out.box (.head _); have z0 := q.cell 0; have z1 := q.cell 1; have z2 := q.cell 2; have z3 := q.cell 3; have z4 := q.cell 4; (simp at z0 z1 z2 z3 z4); clear q
        have q := H3.out.box (.tail _ (.head _)); have q3 := q.cell 3; (simp at q3); clear q
        have HRS := Lib.hid (Sg.Rules.step j hjk rls r b HRU.out (by rw [HNR.out]; exact hr2) (by rw [HK.out]; exact HRL.out))
        go_upto_if 111 with fail
        cases b
        · go_wp2_with fail
          go_roundg (gk - 1)
          case measure => omega
          case rel =>
            have hru2 : Sg.Rules ks (j + 1) rls := by have h := HRS.out; simpa using h
            refine ⟨j + 1, rls, by omega, by go_num, by rw [HNR.out]; exact hrl, hru2, lb6 :: M6, .slice (some ⟨g, 0, none⟩) ks.length ck, kxs, lv, lxs, .slice Ar nr cr, rxs, ?_⟩
            rw [HNR.out]
            exact H3.out.unbox
        · go_wp2_with (at_builtin; obtain ⟨i0, hI, hz0, hz1, hz2⟩ := info_parts infoRul; refine wpList_append_mk (by rfl) _ _ 25 (by rfl) 91 i0 _ 5 72 Tryd.underlying25 hI hz0 hz1 hz2 rfl (by decide) (H3.out.below ((Below.refl _ _).alloc (Nat.le_refl _) _)) (by rfl) _ _ 1 1 (rulCells r).toList (by rfl) (reads_blk (Blk.new _ _ _) rfl) (by simp [rulCells, Value.oneCell']) (by unfold maxLen; omega) (by omega) ?_; intro v7 w7 M7 h7 _; obtain ⟨A7, c7, rfl⟩ := h7.form; have q := h7.box (.tail _ (.head _)); have s3 := q.cell 3; (simp at s3); have f3 := q.frozen 3; clear q; have T3 := Lib.hid h7; clear h7 hI hz0 hz1 hz2)
          have T4 := (T3.out.swap.set0 3 (.slice A7 (nr + 1) c7)).swap.unbox
          have T5 := Lib.hid ((T4.add (keeps_flat (rls ++ [r]) (rxs ++ (rulCells r).toList)) ((T4.fact (.head _)).append (Flat.single (rule_rep HRL.out HOK.out)))).fswap.tail)
          clear T3 T4 H3
          go_roundg (gk - 1)
          case measure => omega
          case rel =>
            have hru2 : Sg.Rules ks (j + 1) (rls ++ [r]) := by have h := HRS.out; simpa using h
            refine ⟨j + 1, rls ++ [r], by omega, by go_num, by rw [List.length_append, HNR.out]; show nr + 1 ≤ 2; omega, hru2, M7, .slice (some ⟨g, 0, none⟩) ks.length ck, kxs, lv, lxs, .slice A7 (nr + 1) c7, rxs ++ (rulCells r).toList, ?_⟩
            rw [List.length_append, HNR.out]
            exact T5.out
      · obtain rfl : nr = 2 := by omega
        have k1 : (j : Int) < (nk : Int) := by omega
        go_wp2_with fail
        go_meet
        case rel => exact ⟨j, rls, HRU.out, .inr HNR.out, _, kv, kxs, lv, lxs, _, rxs, H.out⟩
    · obtain rfl : j = nk := by omega
      have k1 : ¬ (j : Int) < (j : Int) := by omega
      go_wp2_with fail
      go_meet
      case rel => exact ⟨j, rls, HRU.out, .inl HKL.out.symm, _, kv, kxs, lv, lxs, _, rxs, H.out⟩
end Go.Proofs.YtdpcdocaahjeoaaDoor
