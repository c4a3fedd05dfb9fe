/- Parts of the proof, joined: SxV3, SxV3a, SxV3b, SxV4, SxV4a, SxV4b, SxV5, SxV6, SxLaw7, SxP9, SxE1, SxV7. -/
import Derived.Test.YtmplaikgbeeikaaGreatDoorQ2
import Derived.Test.YtmplaikgbeeikaaGreatDoorQ3
import Derived.Test.YtmplaikgbeeikaaGreatDoorQ10
import Derived.Test.YtmplaikgbeeikaaGreatDoorQ11
import Derived.Test.YtmplaikgbeeikaaGreatDoorQ12
import Derived.Deep.LoopGhost
set_option linter.unusedVariables false
set_option linter.unusedSimpArgs false
set_option linter.unusedSectionVars false
namespace Go.Proofs.YtmplaikgbeeikaaGreatDoor
open Go Go.RowKit
def rtF : Value := .func (.func 113) #[] #[]
def oneF (g : Nat) : Value := .func (.func 142) #[] #[.pointer (some ⟨g, 0, none⟩)]
set_option maxRecDepth 100000 in
set_option maxHeartbeats 4000000 in
theorem oneF_any (x : Fld) (us : List Value) (g : Nat) (w : World) (hr : Mem.rep [] w x us) (hp : (Sc.wts x).length ≤ 1000000) (hg : w.cell? ⟨g, 0, none⟩ = some rtF) :
    Calls Tryz.prog 142 #[.agg us.toArray, .pointer (some ⟨g, 0, none⟩)] w (BoolP (!Sx.fldB x) w) := by
  have hr0 := hr
  obtain ⟨A1, cA, B1, dB, rfl, q1, q2, q3, q4, q5, q6, q7, q8, q9, q10, q11, q12⟩ := rep_fld hr
  clear q1 q2 q3 q4 q5 q6 q7 q8 q9 q10 q11 q12
  show Calls Tryz.prog 142 #[.agg #[.string (Sc.nm x), .string (Sc.of_ x), .string (Sc.up x), .int .i64 (Sc.kd x), .int .i64 (Sc.lo x), .int .i64 (Sc.hi x), .slice A1 (Sc.words x).length cA, .slice B1 (Sc.wts x).length dB], .pointer (some ⟨g, 0, none⟩)] w (BoolP (!Sx.fldB x) w)
  have hB1 : Below w.heap.size w (w.alloc (.cells #[.string (Sc.nm x), .string (Sc.of_ x), .string (Sc.up x), .int .i64 (Sc.kd x), .int .i64 (Sc.lo x), .int .i64 (Sc.hi x), .slice A1 (Sc.words x).length cA, .slice B1 (Sc.wts x).length dB] 52)) := (Below.refl w.heap.size w).alloc (Nat.le_refl _) _
  have hg1 : (w.alloc (.cells #[.string (Sc.nm x), .string (Sc.of_ x), .string (Sc.up x), .int .i64 (Sc.kd x), .int .i64 (Sc.lo x), .int .i64 (Sc.hi x), .slice A1 (Sc.words x).length cA, .slice B1 (Sc.wts x).length dB] 52)).cell? ⟨g, 0, none⟩ = some rtF := (hB1.cell (World.block_lt_of_cell? _ _ hg)).trans hg
  have hr9 := Mem.keep hr0 (Chg.of_below (G := []) hB1)
  have HC := Lib.hid (isField_any x _ (w.alloc (.cells #[.string (Sc.nm x), .string (Sc.of_ x), .string (Sc.up x), .int .i64 (Sc.kd x), .int .i64 (Sc.lo x), .int .i64 (Sc.hi x), .slice A1 (Sc.words x).length cA, .slice B1 (Sc.wts x).length dB] 52)) hr9 hp)
  obtain ⟨r, hrr⟩ : ∃ r, Sx.fldB x = r := ⟨_, rfl⟩
  rw [hrr] at HC ⊢
  have HB1 := Lib.hid hB1
  unfold rtF at hg1
  clear hrr hr0 hr9 hp hg hB1
  go_enter Tryz.func142, Tryz.ntmps142
  go_wp2_with (go_at_call 113; ((with_reducible refine (HC.out).mono ?_)); rintro e w2 ⟨rfl, hb2⟩; have HB := Lib.hid (HB1.out.trans (hb2.mono HB1.out.size)); clear hb2)
  go_ret
  exact ⟨by cases r <;> rfl, HB.out⟩
set_option maxRecDepth 100000 in
set_option maxHeartbeats 4000000 in
theorem idxF_any (l : List (Fld)) (A : Option Addr) (c g : Nat) (W : World) (hs : SlAt [] W A l) (hm : l.length ≤ 9223372036854775807) (hp : ∀ x ∈ l, (Sc.wts x).length ≤ 1000000) (hg : W.cell? ⟨g, 0, none⟩ = some rtF) :
    Calls Tryz.prog 169 #[.slice A l.length c, oneF g] W (PredP (!l.all Sx.fldB) W) := by
  obtain ⟨n, hn⟩ : ∃ n, l.length = n := ⟨_, rfl⟩
  have HS := Lib.hid hs
  have HN := Lib.hid hn
  have HP := Lib.hid hp
  have HG := Lib.hid hg
  rw [hn]
  rw [hn] at hm
  have HV := Lib.hid (oneF_any)
  unfold oneF
  clear hs hn hp hg
  go_enter Tryz.func169, Tryz.ntmps169
  go_wp2_with fail
  go_loopg [8] n (fun r i wr => ∃ k : Nat, k + r = n ∧ i = .int .i64 k ∧ Below W.heap.size W wr ∧ ∀ j (hj : j < l.length), j < k → Sx.fldB l[j] = true)
  case atStart => exact ⟨0, by omega, rfl, Below.refl _ _, fun _ _ h => by omega⟩
  case round =>
    obtain ⟨k, hk, rfl, hb, hall⟩ := hrel
    obtain ⟨wo, rfl⟩ : ∃ wo : World, wo = wr := ⟨_, rfl⟩
    have HB := Lib.hid hb
    have HA := Lib.hid hall
    clear hb hall
    by_cases hlt : k < n
    · have hkp : k < l.length := by rw [HN.out]; exact hlt
      have k0 : (0 : Int) ≤ (k : Int) := Int.natCast_nonneg _
      have k1 : (k : Int) < (n : Int) := by omega
      obtain ⟨b, o, us, rfl, _, hr, hc⟩ := (HS.out.keep (Chg.of_below HB.out)).get k hkp
      have cv := HV.out l[k] us g wo hr (HP.out _ (List.getElem_mem hkp)) ((HB.out.cell (World.block_lt_of_cell? _ _ HG.out)).trans HG.out)
      obtain ⟨x, hx⟩ : ∃ x, l[k] = x := ⟨_, rfl⟩
      rw [hx] at cv hr
      have hr0 := hr
      obtain ⟨A1, cA, B1, dB, rfl, q1, q2, q3, q4, q5, q6, q7, q8, q9, q10, q11, q12⟩ := rep_fld hr
      clear q1 q2 q3 q4 q5 q6 q7 q8 q9 q10 q11 q12
      change Calls Tryz.prog 142 #[.agg #[.string (Sc.nm x), .string (Sc.of_ x), .string (Sc.up x), .int .i64 (Sc.kd x), .int .i64 (Sc.lo x), .int .i64 (Sc.hi x), .slice A1 (Sc.words x).length cA, .slice B1 (Sc.wts x).length dB], .pointer (some ⟨g, 0, none⟩)] wo _ at cv
      have c0 : wo.cell? ⟨b, o + k * 8, none⟩ = some (.string (Sc.nm x)) := hc 0 _ rfl
      have c1 : wo.cell? ⟨b, o + k * 8 + 1, none⟩ = some (.string (Sc.of_ x)) := hc 1 _ rfl
      have c2 : wo.cell? ⟨b, o + k * 8 + 2, none⟩ = some (.string (Sc.up x)) := hc 2 _ rfl
      have c3 : wo.cell? ⟨b, o + k * 8 + 3, none⟩ = some (.int .i64 (Sc.kd x)) := hc 3 _ rfl
      have c4 : wo.cell? ⟨b, o + k * 8 + 4, none⟩ = some (.int .i64 (Sc.lo x)) := hc 4 _ rfl
      have c5 : wo.cell? ⟨b, o + k * 8 + 5, none⟩ = some (.int .i64 (Sc.hi x)) := hc 5 _ rfl
      have c6 : wo.cell? ⟨b, o + k * 8 + 6, none⟩ = some (.slice A1 (Sc.words x).length cA) := hc 6 _ rfl
      have c7 : wo.cell? ⟨b, o + k * 8 + 7, none⟩ = some (.slice B1 (Sc.wts x).length dB) := hc 7 _ rfl
      obtain ⟨bb, hbb⟩ : ∃ b, Sx.fldB x = b := ⟨_, rfl⟩
      rw [hbb] at cv
      have CV := Lib.hid cv
      have HX := Lib.hid hx
      have HBB := Lib.hid hbb
      clear cv hbb hr0 hc hx
      cases bb
      · have HR := Lib.hid (all_bad (b := Sx.fldB) hkp (by rw [HX.out]; exact HBB.out))
        go_wp2_with (go_at_call 142; ((with_reducible refine (CV.out).mono ?_)); rintro e w2 ⟨rfl, hb2⟩; replace HB := Lib.hid (HB.out.trans (hb2.mono HB.out.size)); clear hb2)
        go_ret
        exact ⟨_, rfl, by rw [HR.out]; simp, HB.out⟩
      · go_wp2_with (go_at_call 142; ((with_reducible refine (CV.out).mono ?_)); rintro e w2 ⟨rfl, hb2⟩; replace HB := Lib.hid (HB.out.trans (hb2.mono HB.out.size)); clear hb2)
        go_roundg (gk - 1)
        case measure => omega
        case rel =>
          refine ⟨k + 1, by omega, by go_num, HB.out, fun q hq hlt => ?_⟩
          rcases Nat.lt_or_ge q k with h' | h'
          · exact HA.out q hq h'
          · obtain rfl : q = k := by omega
            rw [HX.out]; exact HBB.out
    · have HR := Lib.hid (all_good (b := Sx.fldB) fun q hq => HA.out q hq (by rw [HN.out] at hq; omega))
      have k1 : ¬ (k : Int) < (n : Int) := by omega
      go_wp2_with fail
      go_ret
      exact ⟨_, rfl, by rw [HR.out]; rfl, HB.out⟩
set_option maxHeartbeats 1000000 in
theorem conF_any (l : List (Fld)) (A : Option Addr) (c g : Nat) (W : World) (hs : SlAt [] W A l) (hm : l.length ≤ 9223372036854775807) (hp : ∀ x ∈ l, (Sc.wts x).length ≤ 1000000) (hg : W.cell? ⟨g, 0, none⟩ = some rtF) :
    Calls Tryz.prog 141 #[.slice A l.length c, oneF g] W (BoolP (!l.all Sx.fldB) W) := by
  have CI := Lib.hid (idxF_any l A c g W hs hm hp hg)
  obtain ⟨n, hn⟩ : ∃ n, l.length = n := ⟨_, rfl⟩
  rw [hn] at CI ⊢
  clear hs hm hn hp hg
  generalize oneF g = F at *
  go_enter Tryz.func141, Tryz.ntmps141
  go_wp2_with (go_at_call 169; ((with_reducible refine (CI.out).mono ?_)); rintro e w2 ⟨r, rfl, hr, hb2⟩; have HB := Lib.hid hb2; have HR := Lib.hid hr; clear hb2 hr)
  go_ret
  exact ⟨by rw [← HR.out]; rfl, HB.out⟩
set_option maxHeartbeats 1000000 in
theorem allF_any (l : List (Fld)) (A : Option Addr) (c : Nat) (w : World) (hs : SlAt [] w A l) (hm : l.length ≤ 9223372036854775807) (hp : ∀ x ∈ l, (Sc.wts x).length ≤ 1000000) :
    Calls Tryz.prog 112 #[.slice A l.length c, rtF] w (BoolP (l.all Sx.fldB) w) := by
  have hB1 : Below w.heap.size w (w.alloc (.cells #[rtF] 146)) := (Below.refl w.heap.size w).alloc (Nat.le_refl _) _
  have CC := Lib.hid (conF_any l A c w.heap.size (w.alloc (.cells #[rtF] 146)) (hs.keep (Chg.of_below hB1)) hm hp (cell_box1 w _ _))
  obtain ⟨n, hn⟩ : ∃ n, l.length = n := ⟨_, rfl⟩
  rw [hn] at CC ⊢
  generalize l.all Sx.fldB = r at *
  unfold rtF at CC hB1 ⊢
  unfold oneF at CC
  have HB1 := Lib.hid hB1
  clear hs hm hn hp hB1
  go_enter Tryz.func112, Tryz.ntmps112
  go_wp2_with (go_at_call 141; ((with_reducible refine (CC.out).mono ?_)); rintro e w2 ⟨rfl, hb2⟩; have HB := Lib.hid (HB1.out.trans (hb2.mono HB1.out.size)); clear hb2)
  go_ret
  exact ⟨by cases r <;> rfl, HB.out⟩
end Go.Proofs.YtmplaikgbeeikaaGreatDoor
namespace Go.Proofs.YtmplaikgbeeikaaGreatDoor
open Go Go.RowKit
set_option maxRecDepth 100000 in
set_option maxHeartbeats 8000000 in
theorem isKind_any (x : Knd) (us : List Value) (w : World) (h : Mem.rep [] w x us) (hp : (Sc.flds x).length ≤ 1000000 ∧ ∀ f ∈ Sc.flds x, (Sc.wts f).length ≤ 1000000) : Calls Tryz.prog 54 #[.agg us.toArray] w (BoolP (Sx.kndB x) w) := by
  obtain ⟨A1, cA, rfl, s1, a2, a3, a1, b1, b2⟩ := rep_knd h
  have C1 := Lib.hid (fun w => isName_any x.1 w a1)
  have C2 := Lib.hid (span_any x.2.1 x.2.2.1 0 65536)
  have C4 := Lib.hid (fun (W' : World) (hb : Below w.heap.size w W') => allF_any (Sc.flds x) A1 cA W' (s1.keep (Chg.of_below hb)) (by omega) hp.2)
  unfold rtF at C4
  obtain ⟨W1, hW1⟩ : ∃ X, w.alloc (.cells #[.string x.1, .int .i64 x.2.1, .int .i64 x.2.2.1, .slice A1 (Sc.flds x).length cA] 49) = X := ⟨_, rfl⟩
  have HB := Lib.hid (show Below w.heap.size w W1 by rw [← hW1]; exact (Below.refl w.heap.size w).alloc (Nat.le_refl _) _)
  have HB1 := Lib.hid (Below.refl W1.heap.size W1)
  have hbk : Blk W1 w.heap.size 49 #[.string x.1, .int .i64 x.2.1, .int .i64 x.2.2.1, .slice A1 (Sc.flds x).length cA] := by rw [← hW1]; exact Blk.new w _ _
  obtain ⟨N, hN⟩ : ∃ n, w.heap.size = n := ⟨_, rfl⟩
  rw [hN] at hbk
  have HBQ := Lib.hid hbk
  have c0 := hbk.cell 0; have c1 := hbk.cell 1; have c2 := hbk.cell 2; have c3 := hbk.cell 3
  simp at c0 c1 c2 c3
  have HW1 := Lib.hid hW1
  show Calls Tryz.prog 54 #[.agg #[.string x.1, .int .i64 x.2.1, .int .i64 x.2.2.1, .slice A1 (Sc.flds x).length cA]] w _
  obtain ⟨q1, hq1⟩ : ∃ b, Sx.nm x.1 = b := ⟨_, rfl⟩
  rw [hq1] at C1
  obtain ⟨q2, hq2⟩ : ∃ b, Sx.span x.2.1 x.2.2.1 0 65536 = b := ⟨_, rfl⟩
  rw [hq2] at C2
  obtain ⟨q3, hq3⟩ : ∃ b, decide ((Sc.flds x).length ≤ 10) = b := ⟨_, rfl⟩
  have hq3' : decide (((Sc.flds x).length : Int) ≤ 10) = q3 := by rw [← hq3]; exact le_cast _ 10
  obtain ⟨q4, hq4⟩ : ∃ b, (Sc.flds x).all Sx.fldB = b := ⟨_, rfl⟩
  rw [hq4] at C4
  have HF := Lib.hid (show Sx.kndB x = (q1 && (q2 && (q3 && q4))) by unfold Sx.kndB; rw [hq1, hq2, hq3, hq4])
  clear h hbk hW1 s1 a1 a2 a3 b1 b2 hp hq1 hq2 hq3 hq4
  generalize Sx.kndB x = fb at *
  generalize (Sc.flds x).length = nl at *
  go_enter Tryz.func54, Tryz.ntmps54
  go_upto_region 1 with fail
  rw [HW1.out]
  cases q1 <;> cases q2 <;> cases q3 <;> (go_wp2_with (first | (go_at_call 110; ((with_reducible refine (C1.out _).mono ?_)); rintro e w2 ⟨rfl, hb2⟩; have HB1 := Lib.hid (HB1.out.trans (hb2.mono HB1.out.size)); have hbk := HBQ.out.below hb2 HBQ.out.lt; have HBQ := Lib.hid hbk; have c0 := hbk.cell 0; have c1 := hbk.cell 1; have c2 := hbk.cell 2; have c3 := hbk.cell 3; simp at c0 c1 c2 c3; clear hbk hb2) | (go_at_call 111; ((with_reducible refine (C2.out _).mono ?_)); rintro e w2 ⟨rfl, rfl⟩) | (go_at_call 112; ((with_reducible refine (C4.out _ (HB.out.trans (HB1.out.mono HB.out.size))).mono ?_)); rintro e w2 ⟨rfl, hb2⟩; have HB1 := Lib.hid (HB1.out.trans (hb2.mono HB1.out.size)); have hbk := HBQ.out.below hb2 HBQ.out.lt; have HBQ := Lib.hid hbk; have c0 := hbk.cell 0; have c1 := hbk.cell 1; have c2 := hbk.cell 2; have c3 := hbk.cell 3; simp at c0 c1 c2 c3; clear hbk hb2)); go_ret; exact ⟨by rw [HF.out]; first | rfl | (cases q4 <;> rfl), HB.out.trans (HB1.out.mono HB.out.size)⟩)
end Go.Proofs.YtmplaikgbeeikaaGreatDoor
namespace Go.Proofs.YtmplaikgbeeikaaGreatDoor
open Go Go.RowKit
def rtK : Value := .func (.func 54) #[] #[]
def oneK (g : Nat) : Value := .func (.func 109) #[] #[.pointer (some ⟨g, 0, none⟩)]
set_option maxRecDepth 100000 in
set_option maxHeartbeats 4000000 in
theorem oneK_any (x : Knd) (us : List Value) (g : Nat) (w : World) (hr : Mem.rep [] w x us) (hp : (Sc.flds x).length ≤ 1000000 ∧ ∀ f ∈ Sc.flds x, (Sc.wts f).length ≤ 1000000) (hg : w.cell? ⟨g, 0, none⟩ = some rtK) :
    Calls Tryz.prog 109 #[.agg us.toArray, .pointer (some ⟨g, 0, none⟩)] w (BoolP (!Sx.kndB x) w) := by
  have hr0 := hr
  obtain ⟨A1, cA, rfl, q1, q2, q3, q4, q5, q6⟩ := rep_knd hr
  clear q1 q2 q3 q4 q5 q6
  show Calls Tryz.prog 109 #[.agg #[.string x.1, .int .i64 x.2.1, .int .i64 x.2.2.1, .slice A1 (Sc.flds x).length cA], .pointer (some ⟨g, 0, none⟩)] w (BoolP (!Sx.kndB x) w)
  have hB1 : Below w.heap.size w (w.alloc (.cells #[.string x.1, .int .i64 x.2.1, .int .i64 x.2.2.1, .slice A1 (Sc.flds x).length cA] 49)) := (Below.refl w.heap.size w).alloc (Nat.le_refl _) _
  have hg1 : (w.alloc (.cells #[.string x.1, .int .i64 x.2.1, .int .i64 x.2.2.1, .slice A1 (Sc.flds x).length cA] 49)).cell? ⟨g, 0, none⟩ = some rtK := (hB1.cell (World.block_lt_of_cell? _ _ hg)).trans hg
  have hr9 := Mem.keep hr0 (Chg.of_below (G := []) hB1)
  have HC := Lib.hid (isKind_any x _ (w.alloc (.cells #[.string x.1, .int .i64 x.2.1, .int .i64 x.2.2.1, .slice A1 (Sc.flds x).length cA] 49)) hr9 hp)
  obtain ⟨r, hrr⟩ : ∃ r, Sx.kndB x = r := ⟨_, rfl⟩
  rw [hrr] at HC ⊢
  have HB1 := Lib.hid hB1
  unfold rtK at hg1
  clear hrr hr0 hr9 hp hg hB1
  go_enter Tryz.func109, Tryz.ntmps109
  go_wp2_with (go_at_call 54; ((with_reducible refine (HC.out).mono ?_)); rintro e w2 ⟨rfl, hb2⟩; have HB := Lib.hid (HB1.out.trans (hb2.mono HB1.out.size)); clear hb2)
  go_ret
  exact ⟨by cases r <;> rfl, HB.out⟩
set_option maxRecDepth 100000 in
set_option maxHeartbeats 4000000 in
theorem idxK_any (l : List (Knd)) (A : Option Addr) (c g : Nat) (W : World) (hs : SlAt [] W A l) (hm : l.length ≤ 9223372036854775807) (hp : ∀ x ∈ l, (Sc.flds x).length ≤ 1000000 ∧ ∀ f ∈ Sc.flds x, (Sc.wts f).length ≤ 1000000) (hg : W.cell? ⟨g, 0, none⟩ = some rtK) :
    Calls Tryz.prog 136 #[.slice A l.length c, oneK g] W (PredP (!l.all Sx.kndB) W) := by
  obtain ⟨n, hn⟩ : ∃ n, l.length = n := ⟨_, rfl⟩
  have HS := Lib.hid hs
  have HN := Lib.hid hn
  have HP := Lib.hid hp
  have HG := Lib.hid hg
  rw [hn]
  rw [hn] at hm
  have HV := Lib.hid (oneK_any)
  unfold oneK
  clear hs hn hp hg
  go_enter Tryz.func136, Tryz.ntmps136
  go_wp2_with fail
  go_loopg [8] n (fun r i wr => ∃ k : Nat, k + r = n ∧ i = .int .i64 k ∧ Below W.heap.size W wr ∧ ∀ j (hj : j < l.length), j < k → Sx.kndB l[j] = true)
  case atStart => exact ⟨0, by omega, rfl, Below.refl _ _, fun _ _ h => by omega⟩
  case round =>
    obtain ⟨k, hk, rfl, hb, hall⟩ := hrel
    obtain ⟨wo, rfl⟩ : ∃ wo : World, wo = wr := ⟨_, rfl⟩
    have HB := Lib.hid hb
    have HA := Lib.hid hall
    clear hb hall
    by_cases hlt : k < n
    · have hkp : k < l.length := by rw [HN.out]; exact hlt
      have k0 : (0 : Int) ≤ (k : Int) := Int.natCast_nonneg _
      have k1 : (k : Int) < (n : Int) := by omega
      obtain ⟨b, o, us, rfl, _, hr, hc⟩ := (HS.out.keep (Chg.of_below HB.out)).get k hkp
      have cv := HV.out l[k] us g wo hr (HP.out _ (List.getElem_mem hkp)) ((HB.out.cell (World.block_lt_of_cell? _ _ HG.out)).trans HG.out)
      obtain ⟨x, hx⟩ : ∃ x, l[k] = x := ⟨_, rfl⟩
      rw [hx] at cv hr
      have hr0 := hr
      obtain ⟨A1, cA, rfl, q1, q2, q3, q4, q5, q6⟩ := rep_knd hr
      clear q1 q2 q3 q4 q5 q6
      change Calls Tryz.prog 109 #[.agg #[.string x.1, .int .i64 x.2.1, .int .i64 x.2.2.1, .slice A1 (Sc.flds x).length cA], .pointer (some ⟨g, 0, none⟩)] wo _ at cv
      have c0 : wo.cell? ⟨b, o + k * 4, none⟩ = some (.string x.1) := hc 0 _ rfl
      have c1 : wo.cell? ⟨b, o + k * 4 + 1, none⟩ = some (.int .i64 x.2.1) := hc 1 _ rfl
      have c2 : wo.cell? ⟨b, o + k * 4 + 2, none⟩ = some (.int .i64 x.2.2.1) := hc 2 _ rfl
      have c3 : wo.cell? ⟨b, o + k * 4 + 3, none⟩ = some (.slice A1 (Sc.flds x).length cA) := hc 3 _ rfl
      obtain ⟨bb, hbb⟩ : ∃ b, Sx.kndB x = b := ⟨_, rfl⟩
      rw [hbb] at cv
      have CV := Lib.hid cv
      have HX := Lib.hid hx
      have HBB := Lib.hid hbb
      clear cv hbb hr0 hc hx
      cases bb
      · have HR := Lib.hid (all_bad (b := Sx.kndB) hkp (by rw [HX.out]; exact HBB.out))
        go_wp2_with (go_at_call 109; ((with_reducible refine (CV.out).mono ?_)); rintro e w2 ⟨rfl, hb2⟩; replace HB := Lib.hid (HB.out.trans (hb2.mono HB.out.size)); clear hb2)
        go_ret
        exact ⟨_, rfl, by rw [HR.out]; simp, HB.out⟩
      · go_wp2_with (go_at_call 109; ((with_reducible refine (CV.out).mono ?_)); rintro e w2 ⟨rfl, hb2⟩; replace HB := Lib.hid (HB.out.trans (hb2.mono HB.out.size)); clear hb2)
        go_roundg (gk - 1)
        case measure => omega
        case rel =>
          refine ⟨k + 1, by omega, by go_num, HB.out, fun q hq hlt => ?_⟩
          rcases Nat.lt_or_ge q k with h' | h'
          · exact HA.out q hq h'
          · obtain rfl : q = k := by omega
            rw [HX.out]; exact HBB.out
    · have HR := Lib.hid (all_good (b := Sx.kndB) fun q hq => HA.out q hq (by rw [HN.out] at hq; omega))
      have k1 : ¬ (k : Int) < (n : Int) := by omega
      go_wp2_with fail
      go_ret
      exact ⟨_, rfl, by rw [HR.out]; rfl, HB.out⟩
set_option maxHeartbeats 1000000 in
theorem conK_any (l : List (Knd)) (A : Option Addr) (c g : Nat) (W : World) (hs : SlAt [] W A l) (hm : l.length ≤ 9223372036854775807) (hp : ∀ x ∈ l, (Sc.flds x).length ≤ 1000000 ∧ ∀ f ∈ Sc.flds x, (Sc.wts f).length ≤ 1000000) (hg : W.cell? ⟨g, 0, none⟩ = some rtK) :
    Calls Tryz.prog 108 #[.slice A l.length c, oneK g] W (BoolP (!l.all Sx.kndB) W) := by
  have CI := Lib.hid (idxK_any l A c g W hs hm hp hg)
  obtain ⟨n, hn⟩ : ∃ n, l.length = n := ⟨_, rfl⟩
  rw [hn] at CI ⊢
  clear hs hm hn hp hg
  generalize oneK g = F at *
  go_enter Tryz.func108, Tryz.ntmps108
  go_wp2_with (go_at_call 136; ((with_reducible refine (CI.out).mono ?_)); rintro e w2 ⟨r, rfl, hr, hb2⟩; have HB := Lib.hid hb2; have HR := Lib.hid hr; clear hb2 hr)
  go_ret
  exact ⟨by rw [← HR.out]; rfl, HB.out⟩
set_option maxHeartbeats 1000000 in
theorem allK_any (l : List (Knd)) (A : Option Addr) (c : Nat) (w : World) (hs : SlAt [] w A l) (hm : l.length ≤ 9223372036854775807) (hp : ∀ x ∈ l, (Sc.flds x).length ≤ 1000000 ∧ ∀ f ∈ Sc.flds x, (Sc.wts f).length ≤ 1000000) :
    Calls Tryz.prog 53 #[.slice A l.length c, rtK] w (BoolP (l.all Sx.kndB) w) := by
  have hB1 : Below w.heap.size w (w.alloc (.cells #[rtK] 101)) := (Below.refl w.heap.size w).alloc (Nat.le_refl _) _
  have CC := Lib.hid (conK_any l A c w.heap.size (w.alloc (.cells #[rtK] 101)) (hs.keep (Chg.of_below hB1)) hm hp (cell_box1 w _ _))
  obtain ⟨n, hn⟩ : ∃ n, l.length = n := ⟨_, rfl⟩
  rw [hn] at CC ⊢
  generalize l.all Sx.kndB = r at *
  unfold rtK at CC hB1 ⊢
  unfold oneK at CC
  have HB1 := Lib.hid hB1
  clear hs hm hn hp hB1
  go_enter Tryz.func53, Tryz.ntmps53
  go_wp2_with (go_at_call 108; ((with_reducible refine (CC.out).mono ?_)); rintro e w2 ⟨rfl, hb2⟩; have HB := Lib.hid (HB1.out.trans (hb2.mono HB1.out.size)); clear hb2)
  go_ret
  exact ⟨by cases r <;> rfl, HB.out⟩
end Go.Proofs.YtmplaikgbeeikaaGreatDoor
namespace Go.Proofs.YtmplaikgbeeikaaGreatDoor
open Go Go.RowKit
def Sx.mvB (n : Int) (m : Int × Int) : Bool := Sx.within m.1 0 (n - 1) && Sx.within m.2 0 (n - 1)
set_option maxRecDepth 100000 in
set_option maxHeartbeats 4000000 in
theorem isLife1_any (x : Int × Int) (gn : Nat) (n9 : Int) (w : World) (hp : 0 ≤ n9 ∧ n9 ≤ 9223372036854775807) (hq : w.cell? ⟨gn, 0, none⟩ = some (.int .i64 n9)) : Calls Tryz.prog 118 #[.agg #[.int .i64 x.1, .int .i64 x.2], .pointer (some ⟨gn, 0, none⟩)] w (BoolP (Sx.mvB n9 x) w) := by
  obtain ⟨a, b⟩ := x
  obtain ⟨n8, hn8⟩ : ∃ z, n9 - 1 = z := ⟨_, rfl⟩
  have hw : IntKind.i64.wrap (n9 - 1) = n8 := by rw [← hn8]; exact wrapI (by unfold inI; omega)
  have C1 := Lib.hid (within_any a 0 n8)
  have C2 := Lib.hid (within_any b 0 n8)
  obtain ⟨q1, h1⟩ : ∃ z, Sx.within a 0 n8 = z := ⟨_, rfl⟩
  obtain ⟨q2, h2⟩ : ∃ z, Sx.within b 0 n8 = z := ⟨_, rfl⟩
  rw [h1] at C1
  rw [h2] at C2
  have HF := Lib.hid (show Sx.mvB n9 (a, b) = (q1 && q2) by unfold Sx.mvB; rw [hn8, h1, h2])
  have hlt := World.block_lt_of_cell? _ _ hq
  have hB : Below w.heap.size w (w.alloc (.cells #[.int .i64 a, .int .i64 b] 56)) := (Below.refl w.heap.size w).alloc (Nat.le_refl _) _
  have hq2 := (hB.cell hlt).trans hq
  obtain ⟨W1, hW1⟩ : ∃ X, w.alloc (.cells #[.int .i64 a, .int .i64 b] 56) = X := ⟨_, rfl⟩
  have hbk : Blk W1 w.heap.size 56 #[.int .i64 a, .int .i64 b] := by rw [← hW1]; exact Blk.new w _ _
  rw [hW1] at hB hq2
  have c0 := hbk.cell 0
  have c1 := hbk.cell 1
  simp at c0 c1
  have HB := Lib.hid hB
  have HW1 := Lib.hid hW1
  clear hbk hW1 hB hq hp hn8 h1 h2 hlt
  generalize Sx.mvB n9 (a, b) = fb at *
  go_enter Tryz.func118, Tryz.ntmps118
  go_upto_region 1 with fail
  rw [HW1.out]
  cases q1 <;> (go_wp2_with (first | (go_at_call 52; ((with_reducible refine (C1.out _).mono ?_)); rintro e w2 ⟨rfl, rfl⟩) | (go_at_call 52; ((with_reducible refine (C2.out _).mono ?_)); rintro e w2 ⟨rfl, rfl⟩)); go_ret; exact ⟨by rw [HF.out]; first | rfl | (cases q2 <;> rfl), HB.out⟩)
def rtM (gn : Nat) : Value := .func (.func 118) #[] #[.pointer (some ⟨gn, 0, none⟩)]
def oneM (g : Nat) : Value := .func (.func 149) #[] #[.pointer (some ⟨g, 0, none⟩)]
set_option maxRecDepth 100000 in
set_option maxHeartbeats 4000000 in
theorem oneM_any (gn : Nat) (n9 : Int) (x : Int × Int) (us : List Value) (g : Nat) (w : World) (hr : Mem.rep [] w x us) (hp : 0 ≤ n9 ∧ n9 ≤ 9223372036854775807) (hg : w.cell? ⟨g, 0, none⟩ = some (rtM gn)) (hq : w.cell? ⟨gn, 0, none⟩ = some (.int .i64 n9)) :
    Calls Tryz.prog 149 #[.agg us.toArray, .pointer (some ⟨g, 0, none⟩)] w (BoolP (!(Sx.mvB n9) x) w) := by
  have hr0 := hr
  obtain ⟨rfl, q1, q2⟩ := rep_mv hr
  clear q1 q2
  show Calls Tryz.prog 149 #[.agg #[.int .i64 x.1, .int .i64 x.2], .pointer (some ⟨g, 0, none⟩)] w (BoolP (!(Sx.mvB n9) x) w)
  have hB1 : Below w.heap.size w (w.alloc (.cells #[.int .i64 x.1, .int .i64 x.2] 56)) := (Below.refl w.heap.size w).alloc (Nat.le_refl _) _
  have hg1 : (w.alloc (.cells #[.int .i64 x.1, .int .i64 x.2] 56)).cell? ⟨g, 0, none⟩ = some (rtM gn) := (hB1.cell (World.block_lt_of_cell? _ _ hg)).trans hg
  have hr9 := Mem.keep hr0 (Chg.of_below (G := []) hB1)
  have hq1 := (hB1.cell (World.block_lt_of_cell? _ _ hq)).trans hq
  have HC := Lib.hid (isLife1_any x gn n9 (w.alloc (.cells #[.int .i64 x.1, .int .i64 x.2] 56)) hp hq1)
  obtain ⟨r, hrr⟩ : ∃ r, (Sx.mvB n9) x = r := ⟨_, rfl⟩
  rw [hrr] at HC ⊢
  have HB1 := Lib.hid hB1
  unfold rtM at hg1
  clear hrr hr0 hr9 hp hg hB1 hq
  go_enter Tryz.func149, Tryz.ntmps149
  go_wp2_with (go_at_call 118; ((with_reducible refine (HC.out).mono ?_)); rintro e w2 ⟨rfl, hb2⟩; have HB := Lib.hid (HB1.out.trans (hb2.mono HB1.out.size)); clear hb2)
  go_ret
  exact ⟨by cases r <;> rfl, HB.out⟩
set_option maxRecDepth 100000 in
set_option maxHeartbeats 4000000 in
theorem idxM_any (gn : Nat) (n9 : Int) (l : List (Int × Int)) (A : Option Addr) (c g : Nat) (W : World) (hs : SlAt [] W A l) (hm : l.length ≤ 9223372036854775807) (hp : ∀ x ∈ l, 0 ≤ n9 ∧ n9 ≤ 9223372036854775807) (hg : W.cell? ⟨g, 0, none⟩ = some (rtM gn)) (hq : W.cell? ⟨gn, 0, none⟩ = some (.int .i64 n9)) :
    Calls Tryz.prog 171 #[.slice A l.length c, oneM g] W (PredP (!l.all (Sx.mvB n9)) W) := by
  obtain ⟨n, hn⟩ : ∃ n, l.length = n := ⟨_, rfl⟩
  have HS := Lib.hid hs
  have HN := Lib.hid hn
  have HP := Lib.hid hp
  have HG := Lib.hid hg
  rw [hn]
  rw [hn] at hm
  have HV := Lib.hid (oneM_any gn n9)
  have HQ9 := Lib.hid hq
  unfold oneM
  clear hs hn hp hg hq
  go_enter Tryz.func171, Tryz.ntmps171
  go_wp2_with fail
  go_loopg [8] n (fun r i wr => ∃ k : Nat, k + r = n ∧ i = .int .i64 k ∧ Below W.heap.size W wr ∧ ∀ j (hj : j < l.length), j < k → (Sx.mvB n9) l[j] = true)
  case atStart => exact ⟨0, by omega, rfl, Below.refl _ _, fun _ _ h => by omega⟩
  case round =>
    obtain ⟨k, hk, rfl, hb, hall⟩ := hrel
    obtain ⟨wo, rfl⟩ : ∃ wo : World, wo = wr := ⟨_, rfl⟩
    have HB := Lib.hid hb
    have HA := Lib.hid hall
    clear hb hall
    by_cases hlt : k < n
    · have hkp : k < l.length := by rw [HN.out]; exact hlt
      have k0 : (0 : Int) ≤ (k : Int) := Int.natCast_nonneg _
      have k1 : (k : Int) < (n : Int) := by omega
      obtain ⟨b, o, us, rfl, _, hr, hc⟩ := (HS.out.keep (Chg.of_below HB.out)).get k hkp
      have cv := HV.out l[k] us g wo hr (HP.out _ (List.getElem_mem hkp)) ((HB.out.cell (World.block_lt_of_cell? _ _ HG.out)).trans HG.out) ((HB.out.cell (World.block_lt_of_cell? _ _ HQ9.out)).trans HQ9.out)
      obtain ⟨x, hx⟩ : ∃ x, l[k] = x := ⟨_, rfl⟩
      rw [hx] at cv hr
      have hr0 := hr
      obtain ⟨rfl, q1, q2⟩ := rep_mv hr
      clear q1 q2
      change Calls Tryz.prog 149 #[.agg #[.int .i64 x.1, .int .i64 x.2], .pointer (some ⟨g, 0, none⟩)] wo _ at cv
      have c0 : wo.cell? ⟨b, o + k * 2, none⟩ = some (.int .i64 x.1) := hc 0 _ rfl
      have c1 : wo.cell? ⟨b, o + k * 2 + 1, none⟩ = some (.int .i64 x.2) := hc 1 _ rfl
      obtain ⟨bb, hbb⟩ : ∃ b, (Sx.mvB n9) x = b := ⟨_, rfl⟩
      rw [hbb] at cv
      have CV := Lib.hid cv
      have HX := Lib.hid hx
      have HBB := Lib.hid hbb
      clear cv hbb hr0 hc hx
      cases bb
      · have HR := Lib.hid (all_bad (b := (Sx.mvB n9)) hkp (by rw [HX.out]; exact HBB.out))
        go_wp2_with (go_at_call 149; ((with_reducible refine (CV.out).mono ?_)); rintro e w2 ⟨rfl, hb2⟩; replace HB := Lib.hid (HB.out.trans (hb2.mono HB.out.size)); clear hb2)
        go_ret
        exact ⟨_, rfl, by rw [HR.out]; simp, HB.out⟩
      · go_wp2_with (go_at_call 149; ((with_reducible refine (CV.out).mono ?_)); rintro e w2 ⟨rfl, hb2⟩; replace HB := Lib.hid (HB.out.trans (hb2.mono HB.out.size)); clear hb2)
        go_roundg (gk - 1)
        case measure => omega
        case rel =>
          refine ⟨k + 1, by omega, by go_num, HB.out, fun q hq hlt => ?_⟩
          rcases Nat.lt_or_ge q k with h' | h'
          · exact HA.out q hq h'
          · obtain rfl : q = k := by omega
            rw [HX.out]; exact HBB.out
    · have HR := Lib.hid (all_good (b := (Sx.mvB n9)) fun q hq => HA.out q hq (by rw [HN.out] at hq; omega))
      have k1 : ¬ (k : Int) < (n : Int) := by omega
      go_wp2_with fail
      go_ret
      exact ⟨_, rfl, by rw [HR.out]; rfl, HB.out⟩
set_option maxHeartbeats 1000000 in
theorem conM_any (gn : Nat) (n9 : Int) (l : List (Int × Int)) (A : Option Addr) (c g : Nat) (W : World) (hs : SlAt [] W A l) (hm : l.length ≤ 9223372036854775807) (hp : ∀ x ∈ l, 0 ≤ n9 ∧ n9 ≤ 9223372036854775807) (hg : W.cell? ⟨g, 0, none⟩ = some (rtM gn)) (hq : W.cell? ⟨gn, 0, none⟩ = some (.int .i64 n9)) :
    Calls Tryz.prog 148 #[.slice A l.length c, oneM g] W (BoolP (!l.all (Sx.mvB n9)) W) := by
  have CI := Lib.hid (idxM_any gn n9 l A c g W hs hm hp hg hq)
  obtain ⟨n, hn⟩ : ∃ n, l.length = n := ⟨_, rfl⟩
  rw [hn] at CI ⊢
  clear hs hm hn hp hg hq
  generalize oneM g = F at *
  go_enter Tryz.func148, Tryz.ntmps148
  go_wp2_with (go_at_call 171; ((with_reducible refine (CI.out).mono ?_)); rintro e w2 ⟨r, rfl, hr, hb2⟩; have HB := Lib.hid hb2; have HR := Lib.hid hr; clear hb2 hr)
  go_ret
  exact ⟨by rw [← HR.out]; rfl, HB.out⟩
set_option maxHeartbeats 1000000 in
theorem allM_any (gn : Nat) (n9 : Int) (l : List (Int × Int)) (A : Option Addr) (c : Nat) (w : World) (hs : SlAt [] w A l) (hm : l.length ≤ 9223372036854775807) (hp : ∀ x ∈ l, 0 ≤ n9 ∧ n9 ≤ 9223372036854775807) (hq : w.cell? ⟨gn, 0, none⟩ = some (.int .i64 n9)) :
    Calls Tryz.prog 117 #[.slice A l.length c, (rtM gn)] w (BoolP (l.all (Sx.mvB n9)) w) := by
  have hB1 : Below w.heap.size w (w.alloc (.cells #[(rtM gn)] 149)) := (Below.refl w.heap.size w).alloc (Nat.le_refl _) _
  have CC := Lib.hid (conM_any gn n9 l A c w.heap.size (w.alloc (.cells #[(rtM gn)] 149)) (hs.keep (Chg.of_below hB1)) hm hp (cell_box1 w _ _) ((hB1.cell (World.block_lt_of_cell? _ _ hq)).trans hq))
  obtain ⟨n, hn⟩ : ∃ n, l.length = n := ⟨_, rfl⟩
  rw [hn] at CC ⊢
  generalize l.all (Sx.mvB n9) = r at *
  unfold rtM at CC hB1 ⊢
  unfold oneM at CC
  have HB1 := Lib.hid hB1
  clear hs hm hn hp hB1 hq
  go_enter Tryz.func117, Tryz.ntmps117
  go_wp2_with (go_at_call 148; ((with_reducible refine (CC.out).mono ?_)); rintro e w2 ⟨rfl, hb2⟩; have HB := Lib.hid (HB1.out.trans (hb2.mono HB1.out.size)); clear hb2)
  go_ret
  exact ⟨by cases r <;> rfl, HB.out⟩
end Go.Proofs.YtmplaikgbeeikaaGreatDoor
namespace Go.Proofs.YtmplaikgbeeikaaGreatDoor
open Go Go.RowKit
theorem lifB_is (x : Lif) : Sx.lifB x = (Sx.nm x.1 && (Sx.within x.2.1.length 1 12 && (x.2.1.all Sx.nm && (decide (x.2.2.length ≤ 32) && x.2.2.all (Sx.mvB x.2.1.length))))) := rfl
set_option maxRecDepth 100000 in
set_option maxHeartbeats 8000000 in
theorem isLife_any (x : Lif) (us : List Value) (w : World) (h : Mem.rep [] w x us) (hp : x.2.1.length ≤ 1000000 ∧ x.2.2.length ≤ 1000000) : Calls Tryz.prog 56 #[.agg us.toArray] w (BoolP (Sx.lifB x) w) := by
  obtain ⟨A1, cA, B1, dB, rfl, s1, s2, a1, b1, b2, e1, e2⟩ := rep_lif h
  have C1 := Lib.hid (fun w => isName_any x.1 w a1)
  have C2 := Lib.hid (within_any x.2.1.length 1 12)
  obtain ⟨W0, hW0⟩ : ∃ X, w.alloc (.cells #[.string x.1, .slice A1 x.2.1.length cA, .slice B1 x.2.2.length dB] 55) = X := ⟨_, rfl⟩
  have hB0 : Below w.heap.size w W0 := by rw [← hW0]; exact (Below.refl w.heap.size w).alloc (Nat.le_refl _) _
  have hbk0 : Blk W0 w.heap.size 55 #[.string x.1, .slice A1 x.2.1.length cA, .slice B1 x.2.2.length dB] := by rw [← hW0]; exact Blk.new w _ _
  obtain ⟨W1, hW1⟩ : ∃ X, W0.alloc (.cells #[.int .i64 (x.2.1.length : Int)] 3) = X := ⟨_, rfl⟩
  have hB1 : Below w.heap.size w W1 := by rw [← hW1]; exact hB0.alloc hB0.size _
  have hbk : Blk W1 w.heap.size 55 #[.string x.1, .slice A1 x.2.1.length cA, .slice B1 x.2.2.length dB] := by rw [← hW1]; exact hbk0.alloc _
  have hbn : Blk W1 (w.heap.size + 1) 3 #[.int .i64 (x.2.1.length : Int)] := by
    have hz : W0.heap.size = w.heap.size + 1 := by rw [← hW0]; show (w.heap.push _).size = _; rw [Array.size_push]
    rw [← hW1, ← hz]; exact Blk.new W0 _ _
  obtain ⟨N, hN⟩ : ∃ n, w.heap.size = n := ⟨_, rfl⟩
  rw [hN] at hbk hbn hbk0
  have k0 := hbk0.cell 1
  simp at k0
  have HB := Lib.hid hB1
  have HB1 := Lib.hid (Below.refl W1.heap.size W1)
  have HBQ := Lib.hid hbk
  have HBN := Lib.hid hbn
  have C3 := Lib.hid (fun (W' : World) (hb : Below w.heap.size w W') => allS_any x.2.1 A1 cA W' (s1.keep (Chg.of_below hb)) (by omega) (fun _ _ => trivial))
  have C5 := Lib.hid (fun (W' : World) (hb : Below w.heap.size w W') (hq : W'.cell? ⟨N + 1, 0, none⟩ = some (.int .i64 (x.2.1.length : Int))) => allM_any (N + 1) (x.2.1.length : Int) x.2.2 B1 dB W' (s2.keep (Chg.of_below hb)) (by omega) (fun _ _ => by omega) hq)
  unfold rtS at C3
  unfold rtM at C5
  have c0 := hbk.cell 0; have c1 := hbk.cell 1; have c2 := hbk.cell 2; have cn := hbn.cell 0
  simp at c0 c1 c2 cn
  have HW0 := Lib.hid hW0
  have HW1 := Lib.hid hW1
  show Calls Tryz.prog 56 #[.agg #[.string x.1, .slice A1 x.2.1.length cA, .slice B1 x.2.2.length dB]] w _
  obtain ⟨q1, hq1⟩ : ∃ b, Sx.nm x.1 = b := ⟨_, rfl⟩
  obtain ⟨q2, hq2⟩ : ∃ b, Sx.within x.2.1.length 1 12 = b := ⟨_, rfl⟩
  obtain ⟨q3, hq3⟩ : ∃ b, x.2.1.all Sx.nm = b := ⟨_, rfl⟩
  obtain ⟨q4, hq4⟩ : ∃ b, decide (x.2.2.length ≤ 32) = b := ⟨_, rfl⟩
  obtain ⟨q5, hq5⟩ : ∃ b, x.2.2.all (Sx.mvB x.2.1.length) = b := ⟨_, rfl⟩
  rw [hq1] at C1
  rw [hq2] at C2
  rw [hq3] at C3
  rw [hq5] at C5
  have hq4' : decide ((x.2.2.length : Int) ≤ 32) = q4 := by rw [← hq4]; exact le_cast _ 32
  have HF := Lib.hid (show Sx.lifB x = (q1 && (q2 && (q3 && (q4 && q5)))) by rw [lifB_is, hq1, hq2, hq3, hq4, hq5])
  clear h hbk hbn hbk0 hW1 hW0 hB0 hB1 s1 s2 a1 b1 b2 e1 e2 hp hq1 hq2 hq3 hq4 hq5
  generalize Sx.lifB x = fb at *
  generalize x.2.1.length = sl at *
  generalize x.2.2.length = ml at *
  go_enter Tryz.func56, Tryz.ntmps56
  go_upto_region 1 with fail
  rw [HW0.out]
  go_upto_region 2 with fail
  rw [HW1.out]
  (try clear k0)
  have hz0 : W0.heap.size = N + 1 := by rw [← HW0.out]; show (w.heap.push _).size = _; rw [Array.size_push, hN]
  (try rw [hz0])
  cases q1 <;> cases q2 <;> cases q3 <;> cases q4 <;> (go_wp2_with (first | (go_at_call 110; ((with_reducible refine (C1.out _).mono ?_)); rintro e w2 ⟨rfl, hb2⟩; have HB1 := Lib.hid (HB1.out.trans (hb2.mono HB1.out.size)); have hbk := HBQ.out.below hb2 HBQ.out.lt; have HBQ := Lib.hid hbk; have hbn := HBN.out.below hb2 HBN.out.lt; have HBN := Lib.hid hbn; have c0 := hbk.cell 0; have c1 := hbk.cell 1; have c2 := hbk.cell 2; have cn := hbn.cell 0; simp at c0 c1 c2 cn; clear hbk hbn hb2) | (go_at_call 52; ((with_reducible refine (C2.out _).mono ?_)); rintro e w2 ⟨rfl, rfl⟩) | (go_at_call 116; ((with_reducible refine (C3.out _ (HB.out.trans (HB1.out.mono HB.out.size))).mono ?_)); rintro e w2 ⟨rfl, hb2⟩; have HB1 := Lib.hid (HB1.out.trans (hb2.mono HB1.out.size)); have hbk := HBQ.out.below hb2 HBQ.out.lt; have HBQ := Lib.hid hbk; have hbn := HBN.out.below hb2 HBN.out.lt; have HBN := Lib.hid hbn; have c0 := hbk.cell 0; have c1 := hbk.cell 1; have c2 := hbk.cell 2; have cn := hbn.cell 0; simp at c0 c1 c2 cn; clear hbk hbn hb2) | (go_at_call 117; ((with_reducible refine (C5.out _ (HB.out.trans (HB1.out.mono HB.out.size)) cn).mono ?_)); rintro e w2 ⟨rfl, hb2⟩; have HB1 := Lib.hid (HB1.out.trans (hb2.mono HB1.out.size)); have hbk := HBQ.out.below hb2 HBQ.out.lt; have HBQ := Lib.hid hbk; have hbn := HBN.out.below hb2 HBN.out.lt; have HBN := Lib.hid hbn; have c0 := hbk.cell 0; have c1 := hbk.cell 1; have c2 := hbk.cell 2; have cn := hbn.cell 0; simp at c0 c1 c2 cn; clear hbk hbn hb2)); go_ret; exact ⟨by rw [HF.out]; first | rfl | (cases q5 <;> rfl), HB.out.trans (HB1.out.mono HB.out.size)⟩)
end Go.Proofs.YtmplaikgbeeikaaGreatDoor
namespace Go.Proofs.YtmplaikgbeeikaaGreatDoor
open Go Go.RowKit
def rtL : Value := .func (.func 56) #[] #[]
def oneL (g : Nat) : Value := .func (.func 115) #[] #[.pointer (some ⟨g, 0, none⟩)]
set_option maxRecDepth 100000 in
set_option maxHeartbeats 4000000 in
theorem oneL_any (x : Lif) (us : List Value) (g : Nat) (w : World) (hr : Mem.rep [] w x us) (hp : x.2.1.length ≤ 1000000 ∧ x.2.2.length ≤ 1000000) (hg : w.cell? ⟨g, 0, none⟩ = some rtL) :
    Calls Tryz.prog 115 #[.agg us.toArray, .pointer (some ⟨g, 0, none⟩)] w (BoolP (!Sx.lifB x) w) := by
  have hr0 := hr
  obtain ⟨A1, cA, B1, dB, rfl, q1, q2, q3, q4, q5, q6, q7⟩ := rep_lif hr
  clear q1 q2 q3 q4 q5 q6 q7
  show Calls Tryz.prog 115 #[.agg #[.string x.1, .slice A1 x.2.1.length cA, .slice B1 x.2.2.length dB], .pointer (some ⟨g, 0, none⟩)] w (BoolP (!Sx.lifB x) w)
  have hB1 : Below w.heap.size w (w.alloc (.cells #[.string x.1, .slice A1 x.2.1.length cA, .slice B1 x.2.2.length dB] 55)) := (Below.refl w.heap.size w).alloc (Nat.le_refl _) _
  have hg1 : (w.alloc (.cells #[.string x.1, .slice A1 x.2.1.length cA, .slice B1 x.2.2.length dB] 55)).cell? ⟨g, 0, none⟩ = some rtL := (hB1.cell (World.block_lt_of_cell? _ _ hg)).trans hg
  have hr9 := Mem.keep hr0 (Chg.of_below (G := []) hB1)
  have HC := Lib.hid (isLife_any x _ (w.alloc (.cells #[.string x.1, .slice A1 x.2.1.length cA, .slice B1 x.2.2.length dB] 55)) hr9 hp)
  obtain ⟨r, hrr⟩ : ∃ r, Sx.lifB x = r := ⟨_, rfl⟩
  rw [hrr] at HC ⊢
  have HB1 := Lib.hid hB1
  unfold rtL at hg1
  clear hrr hr0 hr9 hp hg hB1
  go_enter Tryz.func115, Tryz.ntmps115
  go_wp2_with (go_at_call 56; ((with_reducible refine (HC.out).mono ?_)); rintro e w2 ⟨rfl, hb2⟩; have HB := Lib.hid (HB1.out.trans (hb2.mono HB1.out.size)); clear hb2)
  go_ret
  exact ⟨by cases r <;> rfl, HB.out⟩
set_option maxRecDepth 100000 in
set_option maxHeartbeats 4000000 in
theorem idxL_any (l : List (Lif)) (A : Option Addr) (c g : Nat) (W : World) (hs : SlAt [] W A l) (hm : l.length ≤ 9223372036854775807) (hp : ∀ x ∈ l, x.2.1.length ≤ 1000000 ∧ x.2.2.length ≤ 1000000) (hg : W.cell? ⟨g, 0, none⟩ = some rtL) :
    Calls Tryz.prog 145 #[.slice A l.length c, oneL g] W (PredP (!l.all Sx.lifB) W) := by
  obtain ⟨n, hn⟩ : ∃ n, l.length = n := ⟨_, rfl⟩
  have HS := Lib.hid hs
  have HN := Lib.hid hn
  have HP := Lib.hid hp
  have HG := Lib.hid hg
  rw [hn]
  rw [hn] at hm
  have HV := Lib.hid (oneL_any)
  unfold oneL
  clear hs hn hp hg
  go_enter Tryz.func145, Tryz.ntmps145
  go_wp2_with fail
  go_loopg [8] n (fun r i wr => ∃ k : Nat, k + r = n ∧ i = .int .i64 k ∧ Below W.heap.size W wr ∧ ∀ j (hj : j < l.length), j < k → Sx.lifB l[j] = true)
  case atStart => exact ⟨0, by omega, rfl, Below.refl _ _, fun _ _ h => by omega⟩
  case round =>
    obtain ⟨k, hk, rfl, hb, hall⟩ := hrel
    obtain ⟨wo, rfl⟩ : ∃ wo : World, wo = wr := ⟨_, rfl⟩
    have HB := Lib.hid hb
    have HA := Lib.hid hall
    clear hb hall
    by_cases hlt : k < n
    · have hkp : k < l.length := by rw [HN.out]; exact hlt
      have k0 : (0 : Int) ≤ (k : Int) := Int.natCast_nonneg _
      have k1 : (k : Int) < (n : Int) := by omega
      obtain ⟨b, o, us, rfl, _, hr, hc⟩ := (HS.out.keep (Chg.of_below HB.out)).get k hkp
      have cv := HV.out l[k] us g wo hr (HP.out _ (List.getElem_mem hkp)) ((HB.out.cell (World.block_lt_of_cell? _ _ HG.out)).trans HG.out)
      obtain ⟨x, hx⟩ : ∃ x, l[k] = x := ⟨_, rfl⟩
      rw [hx] at cv hr
      have hr0 := hr
      obtain ⟨A1, cA, B1, dB, rfl, q1, q2, q3, q4, q5, q6, q7⟩ := rep_lif hr
      clear q1 q2 q3 q4 q5 q6 q7
      change Calls Tryz.prog 115 #[.agg #[.string x.1, .slice A1 x.2.1.length cA, .slice B1 x.2.2.length dB], .pointer (some ⟨g, 0, none⟩)] wo _ at cv
      have c0 : wo.cell? ⟨b, o + k * 3, none⟩ = some (.string x.1) := hc 0 _ rfl
      have c1 : wo.cell? ⟨b, o + k * 3 + 1, none⟩ = some (.slice A1 x.2.1.length cA) := hc 1 _ rfl
      have c2 : wo.cell? ⟨b, o + k * 3 + 2, none⟩ = some (.slice B1 x.2.2.length dB) := hc 2 _ rfl
      obtain ⟨bb, hbb⟩ : ∃ b, Sx.lifB x = b := ⟨_, rfl⟩
      rw [hbb] at cv
      have CV := Lib.hid cv
      have HX := Lib.hid hx
      have HBB := Lib.hid hbb
      clear cv hbb hr0 hc hx
      cases bb
      · have HR := Lib.hid (all_bad (b := Sx.lifB) hkp (by rw [HX.out]; exact HBB.out))
        go_wp2_with (go_at_call 115; ((with_reducible refine (CV.out).mono ?_)); rintro e w2 ⟨rfl, hb2⟩; replace HB := Lib.hid (HB.out.trans (hb2.mono HB.out.size)); clear hb2)
        go_ret
        exact ⟨_, rfl, by rw [HR.out]; simp, HB.out⟩
      · go_wp2_with (go_at_call 115; ((with_reducible refine (CV.out).mono ?_)); rintro e w2 ⟨rfl, hb2⟩; replace HB := Lib.hid (HB.out.trans (hb2.mono HB.out.size)); clear hb2)
        go_roundg (gk - 1)
        case measure => omega
        case rel =>
          refine ⟨k + 1, by omega, by go_num, HB.out, fun q hq hlt => ?_⟩
          rcases Nat.lt_or_ge q k with h' | h'
          · exact HA.out q hq h'
          · obtain rfl : q = k := by omega
            rw [HX.out]; exact HBB.out
    · have HR := Lib.hid (all_good (b := Sx.lifB) fun q hq => HA.out q hq (by rw [HN.out] at hq; omega))
      have k1 : ¬ (k : Int) < (n : Int) := by omega
      go_wp2_with fail
      go_ret
      exact ⟨_, rfl, by rw [HR.out]; rfl, HB.out⟩
set_option maxHeartbeats 1000000 in
theorem conL_any (l : List (Lif)) (A : Option Addr) (c g : Nat) (W : World) (hs : SlAt [] W A l) (hm : l.length ≤ 9223372036854775807) (hp : ∀ x ∈ l, x.2.1.length ≤ 1000000 ∧ x.2.2.length ≤ 1000000) (hg : W.cell? ⟨g, 0, none⟩ = some rtL) :
    Calls Tryz.prog 114 #[.slice A l.length c, oneL g] W (BoolP (!l.all Sx.lifB) W) := by
  have CI := Lib.hid (idxL_any l A c g W hs hm hp hg)
  obtain ⟨n, hn⟩ : ∃ n, l.length = n := ⟨_, rfl⟩
  rw [hn] at CI ⊢
  clear hs hm hn hp hg
  generalize oneL g = F at *
  go_enter Tryz.func114, Tryz.ntmps114
  go_wp2_with (go_at_call 145; ((with_reducible refine (CI.out).mono ?_)); rintro e w2 ⟨r, rfl, hr, hb2⟩; have HB := Lib.hid hb2; have HR := Lib.hid hr; clear hb2 hr)
  go_ret
  exact ⟨by rw [← HR.out]; rfl, HB.out⟩
set_option maxHeartbeats 1000000 in
theorem allL_any (l : List (Lif)) (A : Option Addr) (c : Nat) (w : World) (hs : SlAt [] w A l) (hm : l.length ≤ 9223372036854775807) (hp : ∀ x ∈ l, x.2.1.length ≤ 1000000 ∧ x.2.2.length ≤ 1000000) :
    Calls Tryz.prog 55 #[.slice A l.length c, rtL] w (BoolP (l.all Sx.lifB) w) := by
  have hB1 : Below w.heap.size w (w.alloc (.cells #[rtL] 103)) := (Below.refl w.heap.size w).alloc (Nat.le_refl _) _
  have CC := Lib.hid (conL_any l A c w.heap.size (w.alloc (.cells #[rtL] 103)) (hs.keep (Chg.of_below hB1)) hm hp (cell_box1 w _ _))
  obtain ⟨n, hn⟩ : ∃ n, l.length = n := ⟨_, rfl⟩
  rw [hn] at CC ⊢
  generalize l.all Sx.lifB = r at *
  unfold rtL at CC hB1 ⊢
  unfold oneL at CC
  have HB1 := Lib.hid hB1
  clear hs hm hn hp hB1
  go_enter Tryz.func55, Tryz.ntmps55
  go_wp2_with (go_at_call 114; ((with_reducible refine (CC.out).mono ?_)); rintro e w2 ⟨rfl, hb2⟩; have HB := Lib.hid (HB1.out.trans (hb2.mono HB1.out.size)); clear hb2)
  go_ret
  exact ⟨by cases r <;> rfl, HB.out⟩
end Go.Proofs.YtmplaikgbeeikaaGreatDoor
namespace Go.Proofs.YtmplaikgbeeikaaGreatDoor
open Go Go.RowKit
theorem em_add (a b : ByteArray) : Sx.em (a ++ b) = (Sx.em a && Sx.em b) := by
  unfold Sx.em
  rw [ByteArray.size_append, Bool.eq_iff_iff]
  simp
set_option maxRecDepth 100000 in
set_option maxHeartbeats 8000000 in
theorem isRule_any (x : Rul) (us : List Value) (w : World) (h : Mem.rep [] w x us) (hp : x.2.2.1.size + x.2.2.2.1.size ≤ 9223372036854775807) : Calls Tryz.prog 58 #[.agg us.toArray] w (BoolP (Sx.rulB x) w) := by
  obtain ⟨rfl, a1, a2, a3, a4, a5⟩ := rep_rul h
  have C1 := Lib.hid (fun w => isName_any x.1 w a1)
  have C2 := Lib.hid (fun w => isName_any x.2.1 w a2)
  have C3 := Lib.hid (fun w => isName_any x.2.2.1 w a3)
  have C4 := Lib.hid (fun w => isName_any x.2.2.2.1 w a4)
  have C6 := Lib.hid (within_any x.2.2.2.2 (-1048576) 1048576)
  obtain ⟨y1, y2, y3⟩ := em_spell x.2.2.1
  obtain ⟨y4, y5, y6⟩ := em_spell x.2.2.2.1
  obtain ⟨y7, y8, y9⟩ := em_spell (x.2.2.1 ++ x.2.2.2.1)
  have hadd : Sx.em (x.2.2.1 ++ x.2.2.2.1) = (Sx.em x.2.2.1 && Sx.em x.2.2.2.1) := em_add _ _
  rw [hadd] at y7 y8 y9
  clear hadd
  obtain ⟨W1, hW1⟩ : ∃ X, w.alloc (.cells #[.string x.1, .string x.2.1, .string x.2.2.1, .string x.2.2.2.1, .int .i64 x.2.2.2.2] 58) = X := ⟨_, rfl⟩
  have HB := Lib.hid (show Below w.heap.size w W1 by rw [← hW1]; exact (Below.refl w.heap.size w).alloc (Nat.le_refl _) _)
  have HB1 := Lib.hid (Below.refl W1.heap.size W1)
  have hbk : Blk W1 w.heap.size 58 #[.string x.1, .string x.2.1, .string x.2.2.1, .string x.2.2.2.1, .int .i64 x.2.2.2.2] := by rw [← hW1]; exact Blk.new w _ _
  obtain ⟨N, hN⟩ : ∃ n, w.heap.size = n := ⟨_, rfl⟩
  rw [hN] at hbk
  have HBQ := Lib.hid hbk
  have c0 := hbk.cell 0; have c1 := hbk.cell 1; have c2 := hbk.cell 2; have c3 := hbk.cell 3; have c4 := hbk.cell 4
  simp at c0 c1 c2 c3 c4
  have HW1 := Lib.hid hW1
  show Calls Tryz.prog 58 #[.agg #[.string x.1, .string x.2.1, .string x.2.2.1, .string x.2.2.2.1, .int .i64 x.2.2.2.2]] w _
  obtain ⟨q1, hq1⟩ : ∃ b, Sx.nm x.1 = b := ⟨_, rfl⟩
  rw [hq1] at C1
  obtain ⟨q2, hq2⟩ : ∃ b, Sx.nm x.2.1 = b := ⟨_, rfl⟩
  rw [hq2] at C2
  obtain ⟨q3, hq3⟩ : ∃ b, Sx.em x.2.2.1 = b := ⟨_, rfl⟩
  rw [hq3] at y1 y2 y3 y7 y8 y9
  obtain ⟨q4, hq4⟩ : ∃ b, Sx.nm x.2.2.1 = b := ⟨_, rfl⟩
  rw [hq4] at C3
  obtain ⟨q5, hq5⟩ : ∃ b, Sx.em x.2.2.2.1 = b := ⟨_, rfl⟩
  rw [hq5] at y4 y5 y6 y7 y8 y9
  obtain ⟨q6, hq6⟩ : ∃ b, Sx.nm x.2.2.2.1 = b := ⟨_, rfl⟩
  rw [hq6] at C4
  obtain ⟨q7, hq7⟩ : ∃ b, Sx.within x.2.2.2.2 (-Sx.most) Sx.most = b := ⟨_, rfl⟩
  rw [show Sx.within x.2.2.2.2 (-1048576) 1048576 = q7 from hq7] at C6
  have HF := Lib.hid (show Sx.rulB x = (q1 && (q2 && ((q3 || q4) && ((q5 || q6) && (!(q3 && q5) && q7))))) by unfold Sx.rulB; rw [hq1, hq2, hq3, hq4, hq5, hq6, hq7])
  clear h hbk hW1 a1 a2 a3 a4 a5 hq1 hq2 hq3 hq4 hq5 hq6 hq7
  generalize Sx.rulB x = fb at *
  generalize x.1 = s1 at *
  generalize x.2.1 = s2 at *
  generalize x.2.2.1 = s3 at *
  generalize x.2.2.2.1 = s4 at *
  generalize x.2.2.2.2 = nn at *
  go_enter Tryz.func58, Tryz.ntmps58
  go_upto_region 1 with fail
  rw [HW1.out]
  cases q1 <;> cases q2 <;> cases q3 <;> cases q4 <;> cases q5 <;> cases q6 <;> (go_wp2_with (first | (go_at_call 110; ((with_reducible refine (C1.out _).mono ?_)); rintro e w2 ⟨rfl, hb2⟩; have HB1 := Lib.hid (HB1.out.trans (hb2.mono HB1.out.size)); have hbk := HBQ.out.below hb2 HBQ.out.lt; have HBQ := Lib.hid hbk; have c0 := hbk.cell 0; have c1 := hbk.cell 1; have c2 := hbk.cell 2; have c3 := hbk.cell 3; have c4 := hbk.cell 4; simp at c0 c1 c2 c3 c4; clear hbk hb2) | (go_at_call 110; ((with_reducible refine (C2.out _).mono ?_)); rintro e w2 ⟨rfl, hb2⟩; have HB1 := Lib.hid (HB1.out.trans (hb2.mono HB1.out.size)); have hbk := HBQ.out.below hb2 HBQ.out.lt; have HBQ := Lib.hid hbk; have c0 := hbk.cell 0; have c1 := hbk.cell 1; have c2 := hbk.cell 2; have c3 := hbk.cell 3; have c4 := hbk.cell 4; simp at c0 c1 c2 c3 c4; clear hbk hb2) | (go_at_call 110; ((with_reducible refine (C3.out _).mono ?_)); rintro e w2 ⟨rfl, hb2⟩; have HB1 := Lib.hid (HB1.out.trans (hb2.mono HB1.out.size)); have hbk := HBQ.out.below hb2 HBQ.out.lt; have HBQ := Lib.hid hbk; have c0 := hbk.cell 0; have c1 := hbk.cell 1; have c2 := hbk.cell 2; have c3 := hbk.cell 3; have c4 := hbk.cell 4; simp at c0 c1 c2 c3 c4; clear hbk hb2) | (go_at_call 110; ((with_reducible refine (C4.out _).mono ?_)); rintro e w2 ⟨rfl, hb2⟩; have HB1 := Lib.hid (HB1.out.trans (hb2.mono HB1.out.size)); have hbk := HBQ.out.below hb2 HBQ.out.lt; have HBQ := Lib.hid hbk; have c0 := hbk.cell 0; have c1 := hbk.cell 1; have c2 := hbk.cell 2; have c3 := hbk.cell 3; have c4 := hbk.cell 4; simp at c0 c1 c2 c3 c4; clear hbk hb2) | (go_at_call 52; ((with_reducible refine (C6.out _).mono ?_)); rintro e w2 ⟨rfl, rfl⟩)); go_ret; exact ⟨by rw [HF.out]; first | rfl | (cases q7 <;> rfl), HB.out.trans (HB1.out.mono HB.out.size)⟩)
def rtR : Value := .func (.func 58) #[] #[]
def oneR (g : Nat) : Value := .func (.func 120) #[] #[.pointer (some ⟨g, 0, none⟩)]
set_option maxRecDepth 100000 in
set_option maxHeartbeats 4000000 in
theorem oneR_any (x : Rul) (us : List Value) (g : Nat) (w : World) (hr : Mem.rep [] w x us) (hp : x.2.2.1.size + x.2.2.2.1.size ≤ 9223372036854775807) (hg : w.cell? ⟨g, 0, none⟩ = some rtR) :
    Calls Tryz.prog 120 #[.agg us.toArray, .pointer (some ⟨g, 0, none⟩)] w (BoolP (!Sx.rulB x) w) := by
  have hr0 := hr
  obtain ⟨rfl, q1, q2, q3, q4, q5⟩ := rep_rul hr
  clear q1 q2 q3 q4 q5
  show Calls Tryz.prog 120 #[.agg #[.string x.1, .string x.2.1, .string x.2.2.1, .string x.2.2.2.1, .int .i64 x.2.2.2.2], .pointer (some ⟨g, 0, none⟩)] w (BoolP (!Sx.rulB x) w)
  have hB1 : Below w.heap.size w (w.alloc (.cells #[.string x.1, .string x.2.1, .string x.2.2.1, .string x.2.2.2.1, .int .i64 x.2.2.2.2] 58)) := (Below.refl w.heap.size w).alloc (Nat.le_refl _) _
  have hg1 : (w.alloc (.cells #[.string x.1, .string x.2.1, .string x.2.2.1, .string x.2.2.2.1, .int .i64 x.2.2.2.2] 58)).cell? ⟨g, 0, none⟩ = some rtR := (hB1.cell (World.block_lt_of_cell? _ _ hg)).trans hg
  have hr9 := Mem.keep hr0 (Chg.of_below (G := []) hB1)
  have HC := Lib.hid (isRule_any x _ (w.alloc (.cells #[.string x.1, .string x.2.1, .string x.2.2.1, .string x.2.2.2.1, .int .i64 x.2.2.2.2] 58)) hr9 hp)
  obtain ⟨r, hrr⟩ : ∃ r, Sx.rulB x = r := ⟨_, rfl⟩
  rw [hrr] at HC ⊢
  have HB1 := Lib.hid hB1
  unfold rtR at hg1
  clear hrr hr0 hr9 hp hg hB1
  go_enter Tryz.func120, Tryz.ntmps120
  go_wp2_with (go_at_call 58; ((with_reducible refine (HC.out).mono ?_)); rintro e w2 ⟨rfl, hb2⟩; have HB := Lib.hid (HB1.out.trans (hb2.mono HB1.out.size)); clear hb2)
  go_ret
  exact ⟨by cases r <;> rfl, HB.out⟩
set_option maxRecDepth 100000 in
set_option maxHeartbeats 4000000 in
theorem idxR_any (l : List (Rul)) (A : Option Addr) (c g : Nat) (W : World) (hs : SlAt [] W A l) (hm : l.length ≤ 9223372036854775807) (hp : ∀ x ∈ l, x.2.2.1.size + x.2.2.2.1.size ≤ 9223372036854775807) (hg : W.cell? ⟨g, 0, none⟩ = some rtR) :
    Calls Tryz.prog 150 #[.slice A l.length c, oneR g] W (PredP (!l.all Sx.rulB) W) := by
  obtain ⟨n, hn⟩ : ∃ n, l.length = n := ⟨_, rfl⟩
  have HS := Lib.hid hs
  have HN := Lib.hid hn
  have HP := Lib.hid hp
  have HG := Lib.hid hg
  rw [hn]
  rw [hn] at hm
  have HV := Lib.hid (oneR_any)
  unfold oneR
  clear hs hn hp hg
  go_enter Tryz.func150, Tryz.ntmps150
  go_wp2_with fail
  go_loopg [8] n (fun r i wr => ∃ k : Nat, k + r = n ∧ i = .int .i64 k ∧ Below W.heap.size W wr ∧ ∀ j (hj : j < l.length), j < k → Sx.rulB l[j] = true)
  case atStart => exact ⟨0, by omega, rfl, Below.refl _ _, fun _ _ h => by omega⟩
  case round =>
    obtain ⟨k, hk, rfl, hb, hall⟩ := hrel
    obtain ⟨wo, rfl⟩ : ∃ wo : World, wo = wr := ⟨_, rfl⟩
    have HB := Lib.hid hb
    have HA := Lib.hid hall
    clear hb hall
    by_cases hlt : k < n
    · have hkp : k < l.length := by rw [HN.out]; exact hlt
      have k0 : (0 : Int) ≤ (k : Int) := Int.natCast_nonneg _
      have k1 : (k : Int) < (n : Int) := by omega
      obtain ⟨b, o, us, rfl, _, hr, hc⟩ := (HS.out.keep (Chg.of_below HB.out)).get k hkp
      have cv := HV.out l[k] us g wo hr (HP.out _ (List.getElem_mem hkp)) ((HB.out.cell (World.block_lt_of_cell? _ _ HG.out)).trans HG.out)
      obtain ⟨x, hx⟩ : ∃ x, l[k] = x := ⟨_, rfl⟩
      rw [hx] at cv hr
      have hr0 := hr
      obtain ⟨rfl, q1, q2, q3, q4, q5⟩ := rep_rul hr
      clear q1 q2 q3 q4 q5
      change Calls Tryz.prog 120 #[.agg #[.string x.1, .string x.2.1, .string x.2.2.1, .string x.2.2.2.1, .int .i64 x.2.2.2.2], .pointer (some ⟨g, 0, none⟩)] wo _ at cv
      have c0 : wo.cell? ⟨b, o + k * 5, none⟩ = some (.string x.1) := hc 0 _ rfl
      have c1 : wo.cell? ⟨b, o + k * 5 + 1, none⟩ = some (.string x.2.1) := hc 1 _ rfl
      have c2 : wo.cell? ⟨b, o + k * 5 + 2, none⟩ = some (.string x.2.2.1) := hc 2 _ rfl
      have c3 : wo.cell? ⟨b, o + k * 5 + 3, none⟩ = some (.string x.2.2.2.1) := hc 3 _ rfl
      have c4 : wo.cell? ⟨b, o + k * 5 + 4, none⟩ = some (.int .i64 x.2.2.2.2) := hc 4 _ rfl
      obtain ⟨bb, hbb⟩ : ∃ b, Sx.rulB x = b := ⟨_, rfl⟩
      rw [hbb] at cv
      have CV := Lib.hid cv
      have HX := Lib.hid hx
      have HBB := Lib.hid hbb
      clear cv hbb hr0 hc hx
      cases bb
      · have HR := Lib.hid (all_bad (b := Sx.rulB) hkp (by rw [HX.out]; exact HBB.out))
        go_wp2_with (go_at_call 120; ((with_reducible refine (CV.out).mono ?_)); rintro e w2 ⟨rfl, hb2⟩; replace HB := Lib.hid (HB.out.trans (hb2.mono HB.out.size)); clear hb2)
        go_ret
        exact ⟨_, rfl, by rw [HR.out]; simp, HB.out⟩
      · go_wp2_with (go_at_call 120; ((with_reducible refine (CV.out).mono ?_)); rintro e w2 ⟨rfl, hb2⟩; replace HB := Lib.hid (HB.out.trans (hb2.mono HB.out.size)); clear hb2)
        go_roundg (gk - 1)
        case measure => omega
        case rel =>
          refine ⟨k + 1, by omega, by go_num, HB.out, fun q hq hlt => ?_⟩
          rcases Nat.lt_or_ge q k with h' | h'
          · exact HA.out q hq h'
          · obtain rfl : q = k := by omega
            rw [HX.out]; exact HBB.out
    · have HR := Lib.hid (all_good (b := Sx.rulB) fun q hq => HA.out q hq (by rw [HN.out] at hq; omega))
      have k1 : ¬ (k : Int) < (n : Int) := by omega
      go_wp2_with fail
      go_ret
      exact ⟨_, rfl, by rw [HR.out]; rfl, HB.out⟩
set_option maxHeartbeats 1000000 in
theorem conR_any (l : List (Rul)) (A : Option Addr) (c g : Nat) (W : World) (hs : SlAt [] W A l) (hm : l.length ≤ 9223372036854775807) (hp : ∀ x ∈ l, x.2.2.1.size + x.2.2.2.1.size ≤ 9223372036854775807) (hg : W.cell? ⟨g, 0, none⟩ = some rtR) :
    Calls Tryz.prog 119 #[.slice A l.length c, oneR g] W (BoolP (!l.all Sx.rulB) W) := by
  have CI := Lib.hid (idxR_any l A c g W hs hm hp hg)
  obtain ⟨n, hn⟩ : ∃ n, l.length = n := ⟨_, rfl⟩
  rw [hn] at CI ⊢
  clear hs hm hn hp hg
  generalize oneR g = F at *
  go_enter Tryz.func119, Tryz.ntmps119
  go_wp2_with (go_at_call 150; ((with_reducible refine (CI.out).mono ?_)); rintro e w2 ⟨r, rfl, hr, hb2⟩; have HB := Lib.hid hb2; have HR := Lib.hid hr; clear hb2 hr)
  go_ret
  exact ⟨by rw [← HR.out]; rfl, HB.out⟩
set_option maxHeartbeats 1000000 in
theorem allR_any (l : List (Rul)) (A : Option Addr) (c : Nat) (w : World) (hs : SlAt [] w A l) (hm : l.length ≤ 9223372036854775807) (hp : ∀ x ∈ l, x.2.2.1.size + x.2.2.2.1.size ≤ 9223372036854775807) :
    Calls Tryz.prog 57 #[.slice A l.length c, rtR] w (BoolP (l.all Sx.rulB) w) := by
  have hB1 : Below w.heap.size w (w.alloc (.cells #[rtR] 105)) := (Below.refl w.heap.size w).alloc (Nat.le_refl _) _
  have CC := Lib.hid (conR_any l A c w.heap.size (w.alloc (.cells #[rtR] 105)) (hs.keep (Chg.of_below hB1)) hm hp (cell_box1 w _ _))
  obtain ⟨n, hn⟩ : ∃ n, l.length = n := ⟨_, rfl⟩
  rw [hn] at CC ⊢
  generalize l.all Sx.rulB = r at *
  unfold rtR at CC hB1 ⊢
  unfold oneR at CC
  have HB1 := Lib.hid hB1
  clear hs hm hn hp hB1
  go_enter Tryz.func57, Tryz.ntmps57
  go_wp2_with (go_at_call 119; ((with_reducible refine (CC.out).mono ?_)); rintro e w2 ⟨rfl, hb2⟩; have HB := Lib.hid (HB1.out.trans (hb2.mono HB1.out.size)); clear hb2)
  go_ret
  exact ⟨by cases r <;> rfl, HB.out⟩
end Go.Proofs.YtmplaikgbeeikaaGreatDoor
namespace Go.Proofs.YtmplaikgbeeikaaGreatDoor
open Go Go.RowKit
/-- Sizes that a walk of Valid asks. -/
structure Sx.Sz (x : Sch) : Prop where
  k : ∀ k ∈ Sc.kinds x, (Sc.flds k).length ≤ 1000000 ∧ ∀ f ∈ Sc.flds k, (Sc.wts f).length ≤ 1000000
  l : ∀ l ∈ x.2.2.1, l.2.1.length ≤ 1000000 ∧ l.2.2.length ≤ 1000000
  r : ∀ r ∈ x.2.2.2, r.2.2.1.size + r.2.2.2.1.size ≤ 9223372036854775807
theorem okB_eq (x : Sch) : Sx.okB x = (Sx.within x.1 0 1048576 && (decide ((Sc.kinds x).length ≤ 6) && (decide (x.2.2.1.length ≤ 6) && (decide (x.2.2.2.length ≤ 16) && ((Sc.kinds x).all Sx.kndB && (x.2.2.1.all Sx.lifB && x.2.2.2.all Sx.rulB)))))) := rfl
set_option maxRecDepth 100000 in
set_option maxHeartbeats 16000000 in
theorem valid_any (x : Sch) (us : List Value) (w : World) (h : Mem.rep [] w x us) (hz : Sx.Sz x) (he : SEnv w) : Calls Tryz.prog 21 #[.agg us.toArray] w fun e w' => e = .returned (.int .i64 (Sx.valid x)) ∧ Below w.heap.size w w' := by
  obtain ⟨A, c, B, d, C, e, rfl, s1, s2, s3, a1, b1, b2, b3, b4, b5, b6⟩ := rep_sch h
  obtain ⟨nk, hk⟩ : ∃ n, (Sc.kinds x).length = n := ⟨_, rfl⟩
  obtain ⟨nl, hl⟩ : ∃ n, x.2.2.1.length = n := ⟨_, rfl⟩
  obtain ⟨nr, hr⟩ : ∃ n, x.2.2.2.length = n := ⟨_, rfl⟩
  obtain ⟨q1, h1⟩ : ∃ b, Sx.within x.1 0 1048576 = b := ⟨_, rfl⟩
  obtain ⟨q5, h5⟩ : ∃ b, (Sc.kinds x).all Sx.kndB = b := ⟨_, rfl⟩
  obtain ⟨q6, h6⟩ : ∃ b, x.2.2.1.all Sx.lifB = b := ⟨_, rfl⟩
  obtain ⟨q7, h7⟩ : ∃ b, x.2.2.2.all Sx.rulB = b := ⟨_, rfl⟩
  have C1 := within_any x.1 0 1048576
  rw [h1] at C1
  replace C1 := Lib.hid C1
  have C5 := fun (W : World) (hs : SlAt [] W A (Sc.kinds x)) => allK_any (Sc.kinds x) A c W hs (by omega) hz.k
  have C6 := fun (W : World) (hs : SlAt [] W B x.2.2.1) => allL_any x.2.2.1 B d W hs (by omega) hz.l
  have C7 := fun (W : World) (hs : SlAt [] W C x.2.2.2) => allR_any x.2.2.2 C e W hs (by omega) hz.r
  rw [h5, hk] at C5
  rw [h6, hl] at C6
  rw [h7, hr] at C7
  unfold rtK at C5
  unfold rtL at C6
  unfold rtR at C7
  replace C5 := Lib.hid C5
  replace C6 := Lib.hid C6
  replace C7 := Lib.hid C7
  have HOK := okB_eq x
  rw [h1, hk, hl, hr, h5, h6, h7] at HOK
  obtain ⟨S, hS⟩ : ∃ s, Sx.source x = s := ⟨_, rfl⟩
  have HV : Sx.valid x = if Sx.okB x = true then (if 8192 < S.length then 4 else 0) else 1 := by unfold Sx.valid; rw [hS]
  have hSl : Sx.okB x = true → S.length ≤ 1000000 := fun h => by rw [← hS]; exact Sx.source_le (Sx.okB_bd h)
  have CSR := Lib.hid (fun (W : World) (hr : Mem.rep [] W x [.int .i64 x.1, .slice A nk c, .slice B nl d, .slice C nr e]) (hok : Sx.okB x = true) (hb : Below w.heap.size w W) => source_any x _ W hr hok (he.to hb))
  rw [hS] at CSR
  obtain ⟨N, hN⟩ : ∃ n, w.heap.size = n := ⟨_, rfl⟩
  obtain ⟨W0, hW0⟩ : ∃ X, w.alloc (.cells #[.int .i64 x.1, .slice A nk c, .slice B nl d, .slice C nr e] 28) = X := ⟨_, rfl⟩
  have hb0 : Below w.heap.size w W0 := by rw [← hW0]; exact (Below.refl w.heap.size w).alloc (Nat.le_refl _) _
  have hbk : Blk W0 N 28 #[.int .i64 x.1, .slice A nk c, .slice B nl d, .slice C nr e] := by rw [← hW0, ← hN]; exact Blk.new w _ _
  rw [hk, hl, hr] at h
  have T := Lib.hid ((((((held0 W0 [] (fun _ h => by cases h)).add (keeps_rep x _) (Mem.keep h (Chg.of_below hb0))).add (keeps_sl C x.2.2.2) (s3.keep (Chg.of_below hb0))).add (keeps_sl B x.2.2.1) (s2.keep (Chg.of_below hb0))).add (keeps_sl A (Sc.kinds x)) (s1.keep (Chg.of_below hb0))).add (P := fun M W => N ∉ M ∧ Blk W N 28 #[.int .i64 x.1, .slice A nk c, .slice B nl d, .slice C nr e]) (keeps_blk _ _ _) ⟨by simp, hbk⟩)
  replace C5 := Lib.hid (fun (W : World) (hb : Below W0.heap.size W0 W) => C5.out W ((T.out.below hb).fact (.tail _ (.head _))))
  replace C6 := Lib.hid (fun (W : World) (hb : Below W0.heap.size W0 W) => C6.out W ((T.out.below hb).fact (.tail _ (.tail _ (.head _)))))
  replace C7 := Lib.hid (fun (W : World) (hb : Below W0.heap.size W0 W) => C7.out W ((T.out.below hb).fact (.tail _ (.tail _ (.tail _ (.head _))))))
  replace CSR := Lib.hid (fun (W : World) (hok : Sx.okB x = true) (hb : Below W0.heap.size W0 W) => CSR.out W ((T.out.below hb).fact (.tail _ (.tail _ (.tail _ (.tail _ (.head _)))))) hok (hb0.trans (hb.mono hb0.size)))
  have HB := Lib.hid hb0
  have HW0 := Lib.hid hW0
  show Calls Tryz.prog 21 #[.agg #[.int .i64 x.1, .slice A (Sc.kinds x).length c, .slice B x.2.2.1.length d, .slice C x.2.2.2.length e]] w _
  obtain ⟨vv, hvv⟩ : ∃ z, Sx.valid x = z := ⟨_, rfl⟩
  rw [hvv] at HV ⊢
  rw [hk, hl, hr]
  have HVV := Lib.hid HV
  clear h s1 s2 s3 a1 b1 b2 b3 b4 b5 b6 hk hl hr hbk hb0 hW0 h1 h5 h6 h7 HV hS he hz hvv
  have hbk := (T.out.fact (.head _)).2; have z0 := hbk.cell 0; have z1 := hbk.cell 1; have z2 := hbk.cell 2; have z3 := hbk.cell 3; simp at z0 z1 z2 z3; clear hbk
  have HN := Lib.hid hN
  clear hN
  go_enter Tryz.func21, Tryz.ntmps21
  go_upto_region 1 with fail
  rw [HW0.out, HN.out]
  cases q1
  · (try simp only [Bool.false_and, Bool.true_and] at HOK)
    have HOK := Lib.hid HOK
    go_wp2_with (first | (go_at_call 52; ((with_reducible refine (C1.out _).mono ?_)); rintro e w2 ⟨rfl, rfl⟩) | (go_at_call 53; ((with_reducible refine (C5.out _ T.out.bl).mono ?_)); rintro e w2 ⟨rfl, hb2⟩; replace T := Lib.hid (T.out.below hb2); clear hb2 z0 z1 z2 z3; have hbk := (T.out.fact (.head _)).2; have z0 := hbk.cell 0; have z1 := hbk.cell 1; have z2 := hbk.cell 2; have z3 := hbk.cell 3; simp at z0 z1 z2 z3; clear hbk) | (go_at_call 55; ((with_reducible refine (C6.out _ T.out.bl).mono ?_)); rintro e w2 ⟨rfl, hb2⟩; replace T := Lib.hid (T.out.below hb2); clear hb2 z0 z1 z2 z3; have hbk := (T.out.fact (.head _)).2; have z0 := hbk.cell 0; have z1 := hbk.cell 1; have z2 := hbk.cell 2; have z3 := hbk.cell 3; simp at z0 z1 z2 z3; clear hbk) | (go_at_call 57; ((with_reducible refine (C7.out _ T.out.bl).mono ?_)); rintro e w2 ⟨rfl, hb2⟩; replace T := Lib.hid (T.out.below hb2); clear hb2 z0 z1 z2 z3; have hbk := (T.out.fact (.head _)).2; have z0 := hbk.cell 0; have z1 := hbk.cell 1; have z2 := hbk.cell 2; have z3 := hbk.cell 3; simp at z0 z1 z2 z3; clear hbk))
    go_ret
    have ev : vv = 1 := by rw [HVV.out, if_neg (by rw [HOK.out]; simp)]
    exact ⟨by rw [ev]; rfl, HB.out.trans (T.out.bl.mono HB.out.size)⟩
  · (try simp only [Bool.true_and] at HOK)
    by_cases c2 : nk ≤ 6
    rotate_left
    · rw [decide_eq_false c2] at HOK
      (try simp only [Bool.false_and, Bool.true_and] at HOK)
      have HOK := Lib.hid HOK
      have t1 : ((6 : Int) < (nk : Int)) := by omega
      have t2 : decide ((6 : Int) < (nk : Int)) = true := decide_eq_true (by omega)
      go_wp2_with (first | (go_at_call 52; ((with_reducible refine (C1.out _).mono ?_)); rintro e w2 ⟨rfl, rfl⟩) | (go_at_call 53; ((with_reducible refine (C5.out _ T.out.bl).mono ?_)); rintro e w2 ⟨rfl, hb2⟩; replace T := Lib.hid (T.out.below hb2); clear hb2 z0 z1 z2 z3; have hbk := (T.out.fact (.head _)).2; have z0 := hbk.cell 0; have z1 := hbk.cell 1; have z2 := hbk.cell 2; have z3 := hbk.cell 3; simp at z0 z1 z2 z3; clear hbk) | (go_at_call 55; ((with_reducible refine (C6.out _ T.out.bl).mono ?_)); rintro e w2 ⟨rfl, hb2⟩; replace T := Lib.hid (T.out.below hb2); clear hb2 z0 z1 z2 z3; have hbk := (T.out.fact (.head _)).2; have z0 := hbk.cell 0; have z1 := hbk.cell 1; have z2 := hbk.cell 2; have z3 := hbk.cell 3; simp at z0 z1 z2 z3; clear hbk) | (go_at_call 57; ((with_reducible refine (C7.out _ T.out.bl).mono ?_)); rintro e w2 ⟨rfl, hb2⟩; replace T := Lib.hid (T.out.below hb2); clear hb2 z0 z1 z2 z3; have hbk := (T.out.fact (.head _)).2; have z0 := hbk.cell 0; have z1 := hbk.cell 1; have z2 := hbk.cell 2; have z3 := hbk.cell 3; simp at z0 z1 z2 z3; clear hbk))
      go_ret
      have ev : vv = 1 := by rw [HVV.out, if_neg (by rw [HOK.out]; simp)]
      exact ⟨by rw [ev]; rfl, HB.out.trans (T.out.bl.mono HB.out.size)⟩
    · rw [decide_eq_true c2] at HOK
      (try simp only [Bool.true_and] at HOK)
      have t1c2 : ((nk : Int) ≤ (6 : Int)) := by omega
      have t2c2 : decide ((6 : Int) < (nk : Int)) = false := decide_eq_false (by omega)
      by_cases c3 : nl ≤ 6
      rotate_left
      · rw [decide_eq_false c3] at HOK
        (try simp only [Bool.false_and, Bool.true_and] at HOK)
        have HOK := Lib.hid HOK
        have t1 : ((6 : Int) < (nl : Int)) := by omega
        have t2 : decide ((6 : Int) < (nl : Int)) = true := decide_eq_true (by omega)
        go_wp2_with (first | (go_at_call 52; ((with_reducible refine (C1.out _).mono ?_)); rintro e w2 ⟨rfl, rfl⟩) | (go_at_call 53; ((with_reducible refine (C5.out _ T.out.bl).mono ?_)); rintro e w2 ⟨rfl, hb2⟩; replace T := Lib.hid (T.out.below hb2); clear hb2 z0 z1 z2 z3; have hbk := (T.out.fact (.head _)).2; have z0 := hbk.cell 0; have z1 := hbk.cell 1; have z2 := hbk.cell 2; have z3 := hbk.cell 3; simp at z0 z1 z2 z3; clear hbk) | (go_at_call 55; ((with_reducible refine (C6.out _ T.out.bl).mono ?_)); rintro e w2 ⟨rfl, hb2⟩; replace T := Lib.hid (T.out.below hb2); clear hb2 z0 z1 z2 z3; have hbk := (T.out.fact (.head _)).2; have z0 := hbk.cell 0; have z1 := hbk.cell 1; have z2 := hbk.cell 2; have z3 := hbk.cell 3; simp at z0 z1 z2 z3; clear hbk) | (go_at_call 57; ((with_reducible refine (C7.out _ T.out.bl).mono ?_)); rintro e w2 ⟨rfl, hb2⟩; replace T := Lib.hid (T.out.below hb2); clear hb2 z0 z1 z2 z3; have hbk := (T.out.fact (.head _)).2; have z0 := hbk.cell 0; have z1 := hbk.cell 1; have z2 := hbk.cell 2; have z3 := hbk.cell 3; simp at z0 z1 z2 z3; clear hbk))
        go_ret
        have ev : vv = 1 := by rw [HVV.out, if_neg (by rw [HOK.out]; simp)]
        exact ⟨by rw [ev]; rfl, HB.out.trans (T.out.bl.mono HB.out.size)⟩
      · rw [decide_eq_true c3] at HOK
        (try simp only [Bool.true_and] at HOK)
        have t1c3 : ((nl : Int) ≤ (6 : Int)) := by omega
        have t2c3 : decide ((6 : Int) < (nl : Int)) = false := decide_eq_false (by omega)
        by_cases c4 : nr ≤ 16
        rotate_left
        · rw [decide_eq_false c4] at HOK
          (try simp only [Bool.false_and, Bool.true_and] at HOK)
          have HOK := Lib.hid HOK
          have t1 : ((16 : Int) < (nr : Int)) := by omega
          have t2 : decide ((16 : Int) < (nr : Int)) = true := decide_eq_true (by omega)
          go_wp2_with (first | (go_at_call 52; ((with_reducible refine (C1.out _).mono ?_)); rintro e w2 ⟨rfl, rfl⟩) | (go_at_call 53; ((with_reducible refine (C5.out _ T.out.bl).mono ?_)); rintro e w2 ⟨rfl, hb2⟩; replace T := Lib.hid (T.out.below hb2); clear hb2 z0 z1 z2 z3; have hbk := (T.out.fact (.head _)).2; have z0 := hbk.cell 0; have z1 := hbk.cell 1; have z2 := hbk.cell 2; have z3 := hbk.cell 3; simp at z0 z1 z2 z3; clear hbk) | (go_at_call 55; ((with_reducible refine (C6.out _ T.out.bl).mono ?_)); rintro e w2 ⟨rfl, hb2⟩; replace T := Lib.hid (T.out.below hb2); clear hb2 z0 z1 z2 z3; have hbk := (T.out.fact (.head _)).2; have z0 := hbk.cell 0; have z1 := hbk.cell 1; have z2 := hbk.cell 2; have z3 := hbk.cell 3; simp at z0 z1 z2 z3; clear hbk) | (go_at_call 57; ((with_reducible refine (C7.out _ T.out.bl).mono ?_)); rintro e w2 ⟨rfl, hb2⟩; replace T := Lib.hid (T.out.below hb2); clear hb2 z0 z1 z2 z3; have hbk := (T.out.fact (.head _)).2; have z0 := hbk.cell 0; have z1 := hbk.cell 1; have z2 := hbk.cell 2; have z3 := hbk.cell 3; simp at z0 z1 z2 z3; clear hbk))
          go_ret
          have ev : vv = 1 := by rw [HVV.out, if_neg (by rw [HOK.out]; simp)]
          exact ⟨by rw [ev]; rfl, HB.out.trans (T.out.bl.mono HB.out.size)⟩
        · rw [decide_eq_true c4] at HOK
          (try simp only [Bool.true_and] at HOK)
          have t1c4 : ((nr : Int) ≤ (16 : Int)) := by omega
          have t2c4 : decide ((16 : Int) < (nr : Int)) = false := decide_eq_false (by omega)
          cases q5
          · (try simp only [Bool.false_and, Bool.true_and] at HOK)
            have HOK := Lib.hid HOK
            go_wp2_with (first | (go_at_call 52; ((with_reducible refine (C1.out _).mono ?_)); rintro e w2 ⟨rfl, rfl⟩) | (go_at_call 53; ((with_reducible refine (C5.out _ T.out.bl).mono ?_)); rintro e w2 ⟨rfl, hb2⟩; replace T := Lib.hid (T.out.below hb2); clear hb2 z0 z1 z2 z3; have hbk := (T.out.fact (.head _)).2; have z0 := hbk.cell 0; have z1 := hbk.cell 1; have z2 := hbk.cell 2; have z3 := hbk.cell 3; simp at z0 z1 z2 z3; clear hbk) | (go_at_call 55; ((with_reducible refine (C6.out _ T.out.bl).mono ?_)); rintro e w2 ⟨rfl, hb2⟩; replace T := Lib.hid (T.out.below hb2); clear hb2 z0 z1 z2 z3; have hbk := (T.out.fact (.head _)).2; have z0 := hbk.cell 0; have z1 := hbk.cell 1; have z2 := hbk.cell 2; have z3 := hbk.cell 3; simp at z0 z1 z2 z3; clear hbk) | (go_at_call 57; ((with_reducible refine (C7.out _ T.out.bl).mono ?_)); rintro e w2 ⟨rfl, hb2⟩; replace T := Lib.hid (T.out.below hb2); clear hb2 z0 z1 z2 z3; have hbk := (T.out.fact (.head _)).2; have z0 := hbk.cell 0; have z1 := hbk.cell 1; have z2 := hbk.cell 2; have z3 := hbk.cell 3; simp at z0 z1 z2 z3; clear hbk))
            go_ret
            have ev : vv = 1 := by rw [HVV.out, if_neg (by rw [HOK.out]; simp)]
            exact ⟨by rw [ev]; rfl, HB.out.trans (T.out.bl.mono HB.out.size)⟩
          · (try simp only [Bool.true_and] at HOK)
            cases q6
            · (try simp only [Bool.false_and, Bool.true_and] at HOK)
              have HOK := Lib.hid HOK
              go_wp2_with (first | (go_at_call 52; ((with_reducible refine (C1.out _).mono ?_)); rintro e w2 ⟨rfl, rfl⟩) | (go_at_call 53; ((with_reducible refine (C5.out _ T.out.bl).mono ?_)); rintro e w2 ⟨rfl, hb2⟩; replace T := Lib.hid (T.out.below hb2); clear hb2 z0 z1 z2 z3; have hbk := (T.out.fact (.head _)).2; have z0 := hbk.cell 0; have z1 := hbk.cell 1; have z2 := hbk.cell 2; have z3 := hbk.cell 3; simp at z0 z1 z2 z3; clear hbk) | (go_at_call 55; ((with_reducible refine (C6.out _ T.out.bl).mono ?_)); rintro e w2 ⟨rfl, hb2⟩; replace T := Lib.hid (T.out.below hb2); clear hb2 z0 z1 z2 z3; have hbk := (T.out.fact (.head _)).2; have z0 := hbk.cell 0; have z1 := hbk.cell 1; have z2 := hbk.cell 2; have z3 := hbk.cell 3; simp at z0 z1 z2 z3; clear hbk) | (go_at_call 57; ((with_reducible refine (C7.out _ T.out.bl).mono ?_)); rintro e w2 ⟨rfl, hb2⟩; replace T := Lib.hid (T.out.below hb2); clear hb2 z0 z1 z2 z3; have hbk := (T.out.fact (.head _)).2; have z0 := hbk.cell 0; have z1 := hbk.cell 1; have z2 := hbk.cell 2; have z3 := hbk.cell 3; simp at z0 z1 z2 z3; clear hbk))
              go_ret
              have ev : vv = 1 := by rw [HVV.out, if_neg (by rw [HOK.out]; simp)]
              exact ⟨by rw [ev]; rfl, HB.out.trans (T.out.bl.mono HB.out.size)⟩
            · (try simp only [Bool.true_and] at HOK)
              cases q7
              · (try simp only [Bool.false_and, Bool.true_and] at HOK)
                have HOK := Lib.hid HOK
                go_wp2_with (first | (go_at_call 52; ((with_reducible refine (C1.out _).mono ?_)); rintro e w2 ⟨rfl, rfl⟩) | (go_at_call 53; ((with_reducible refine (C5.out _ T.out.bl).mono ?_)); rintro e w2 ⟨rfl, hb2⟩; replace T := Lib.hid (T.out.below hb2); clear hb2 z0 z1 z2 z3; have hbk := (T.out.fact (.head _)).2; have z0 := hbk.cell 0; have z1 := hbk.cell 1; have z2 := hbk.cell 2; have z3 := hbk.cell 3; simp at z0 z1 z2 z3; clear hbk) | (go_at_call 55; ((with_reducible refine (C6.out _ T.out.bl).mono ?_)); rintro e w2 ⟨rfl, hb2⟩; replace T := Lib.hid (T.out.below hb2); clear hb2 z0 z1 z2 z3; have hbk := (T.out.fact (.head _)).2; have z0 := hbk.cell 0; have z1 := hbk.cell 1; have z2 := hbk.cell 2; have z3 := hbk.cell 3; simp at z0 z1 z2 z3; clear hbk) | (go_at_call 57; ((with_reducible refine (C7.out _ T.out.bl).mono ?_)); rintro e w2 ⟨rfl, hb2⟩; replace T := Lib.hid (T.out.below hb2); clear hb2 z0 z1 z2 z3; have hbk := (T.out.fact (.head _)).2; have z0 := hbk.cell 0; have z1 := hbk.cell 1; have z2 := hbk.cell 2; have z3 := hbk.cell 3; simp at z0 z1 z2 z3; clear hbk))
                go_ret
                have ev : vv = 1 := by rw [HVV.out, if_neg (by rw [HOK.out]; simp)]
                exact ⟨by rw [ev]; rfl, HB.out.trans (T.out.bl.mono HB.out.size)⟩
              · (try simp only [Bool.true_and] at HOK)
                have hok : Sx.okB x = true := HOK
                have HOK := Lib.hid hok
                have hSl2 := hSl hok
                clear hok hSl
                obtain ⟨d9, hd9⟩ : ∃ d : ByteArray, (⟨S.toArray⟩ : ByteArray) = d := ⟨_, rfl⟩
                rw [hd9] at CSR
                have hds : d9.size = S.length := by rw [← hd9]; show S.toArray.size = _; rw [List.size_toArray]
                clear hd9
                by_cases hl : 8192 < S.length
                · have t3 : (8192 : Int) < (d9.size : Int) := by omega
                  have t4 : decide (8192 < d9.size) = true := decide_eq_true (by omega)
                  go_wp2_with (first | (go_at_call 52; ((with_reducible refine (C1.out _).mono ?_)); rintro e w2 ⟨rfl, rfl⟩) | (go_at_call 53; ((with_reducible refine (C5.out _ T.out.bl).mono ?_)); rintro e w2 ⟨rfl, hb2⟩; replace T := Lib.hid (T.out.below hb2); clear hb2 z0 z1 z2 z3; have hbk := (T.out.fact (.head _)).2; have z0 := hbk.cell 0; have z1 := hbk.cell 1; have z2 := hbk.cell 2; have z3 := hbk.cell 3; simp at z0 z1 z2 z3; clear hbk) | (go_at_call 55; ((with_reducible refine (C6.out _ T.out.bl).mono ?_)); rintro e w2 ⟨rfl, hb2⟩; replace T := Lib.hid (T.out.below hb2); clear hb2 z0 z1 z2 z3; have hbk := (T.out.fact (.head _)).2; have z0 := hbk.cell 0; have z1 := hbk.cell 1; have z2 := hbk.cell 2; have z3 := hbk.cell 3; simp at z0 z1 z2 z3; clear hbk) | (go_at_call 57; ((with_reducible refine (C7.out _ T.out.bl).mono ?_)); rintro e w2 ⟨rfl, hb2⟩; replace T := Lib.hid (T.out.below hb2); clear hb2 z0 z1 z2 z3; have hbk := (T.out.fact (.head _)).2; have z0 := hbk.cell 0; have z1 := hbk.cell 1; have z2 := hbk.cell 2; have z3 := hbk.cell 3; simp at z0 z1 z2 z3; clear hbk) | (go_at_call 51; ((with_reducible refine (CSR.out _ HOK.out T.out.bl).mono ?_)); rintro e w2 ⟨rfl, hb2⟩; replace T := Lib.hid (T.out.below hb2); clear hb2 z0 z1 z2 z3; have hbk := (T.out.fact (.head _)).2; have z0 := hbk.cell 0; have z1 := hbk.cell 1; have z2 := hbk.cell 2; have z3 := hbk.cell 3; simp at z0 z1 z2 z3; clear hbk))
                  go_ret
                  have ev : vv = 4 := by rw [HVV.out, if_pos HOK.out, if_pos hl]
                  exact ⟨by rw [ev]; rfl, HB.out.trans (T.out.bl.mono HB.out.size)⟩
                · have t3 : (d9.size : Int) ≤ (8192 : Int) := by omega
                  have t4 : decide (8192 < d9.size) = false := decide_eq_false (by omega)
                  go_wp2_with (first | (go_at_call 52; ((with_reducible refine (C1.out _).mono ?_)); rintro e w2 ⟨rfl, rfl⟩) | (go_at_call 53; ((with_reducible refine (C5.out _ T.out.bl).mono ?_)); rintro e w2 ⟨rfl, hb2⟩; replace T := Lib.hid (T.out.below hb2); clear hb2 z0 z1 z2 z3; have hbk := (T.out.fact (.head _)).2; have z0 := hbk.cell 0; have z1 := hbk.cell 1; have z2 := hbk.cell 2; have z3 := hbk.cell 3; simp at z0 z1 z2 z3; clear hbk) | (go_at_call 55; ((with_reducible refine (C6.out _ T.out.bl).mono ?_)); rintro e w2 ⟨rfl, hb2⟩; replace T := Lib.hid (T.out.below hb2); clear hb2 z0 z1 z2 z3; have hbk := (T.out.fact (.head _)).2; have z0 := hbk.cell 0; have z1 := hbk.cell 1; have z2 := hbk.cell 2; have z3 := hbk.cell 3; simp at z0 z1 z2 z3; clear hbk) | (go_at_call 57; ((with_reducible refine (C7.out _ T.out.bl).mono ?_)); rintro e w2 ⟨rfl, hb2⟩; replace T := Lib.hid (T.out.below hb2); clear hb2 z0 z1 z2 z3; have hbk := (T.out.fact (.head _)).2; have z0 := hbk.cell 0; have z1 := hbk.cell 1; have z2 := hbk.cell 2; have z3 := hbk.cell 3; simp at z0 z1 z2 z3; clear hbk) | (go_at_call 51; ((with_reducible refine (CSR.out _ HOK.out T.out.bl).mono ?_)); rintro e w2 ⟨rfl, hb2⟩; replace T := Lib.hid (T.out.below hb2); clear hb2 z0 z1 z2 z3; have hbk := (T.out.fact (.head _)).2; have z0 := hbk.cell 0; have z1 := hbk.cell 1; have z2 := hbk.cell 2; have z3 := hbk.cell 3; simp at z0 z1 z2 z3; clear hbk))
                  go_ret
                  have ev : vv = 0 := by rw [HVV.out, if_pos HOK.out, if_neg hl]
                  exact ⟨by rw [ev]; rfl, HB.out.trans (T.out.bl.mono HB.out.size)⟩
end Go.Proofs.YtmplaikgbeeikaaGreatDoor
namespace Go.Proofs.YtmplaikgbeeikaaGreatDoor
open Go Go.RowKit
namespace Sx
theorem bind_ok {α β : Type} {r : Res α} {f : α → List Tok → Res β} {b : β} {m : List Tok} (h : r.bind f = .ok b m) : ∃ a l, r = .ok a l ∧ f a l = .ok b m := by
  cases r with
  | ok a l => exact ⟨a, l, rfl, h⟩
  | bad l => cases h
theorem next_ok {right : Txt → Bool} {l m : List Tok} {t : Txt} (h : next right l = .ok t m) : right t = true ∧ m.length ≤ l.length := by
  cases l with
  | nil => cases h
  | cons u l =>
    have h : (if right u.1 = true then Res.ok u.1 l else .bad (u :: l)) = .ok t m := h
    split at h
    · rename_i hr
      injection h with h1 h2
      subst h1 h2
      exact ⟨hr, by simp⟩
    · cases h
theorem many_sz {α : Type} {begins : Txt → Bool} {read : List Tok → Res α} {P : α → Prop} {B : Nat} (hr : ∀ l a m, l.length ≤ B → read l = .ok a m → P a ∧ m.length ≤ l.length) :
    ∀ (f : Nat) (acc : List α) (l : List Tok) (xs : List α) (m : List Tok), l.length ≤ B → many begins read f acc l = .ok xs m → xs.length ≤ acc.length + f ∧ m.length ≤ l.length ∧ ((∀ x ∈ acc, P x) → ∀ x ∈ xs, P x)
  | 0, acc, l, xs, m, _, h => by
    injection h with h1 h2
    subst h1 h2
    exact ⟨Nat.le_refl _, Nat.le_refl _, fun h => h⟩
  | f + 1, acc, [], xs, m, _, h => by
    injection h with h1 h2
    subst h1 h2
    exact ⟨by omega, Nat.le_refl _, fun h => h⟩
  | f + 1, acc, t :: r, xs, m, hl, h => by
    have h : (if begins t.1 = true then (read (t :: r)).bind fun a l => many begins read f (acc ++ [a]) l else .ok acc (t :: r)) = .ok xs m := h
    split at h
    · obtain ⟨a, l1, h1, h2⟩ := bind_ok h
      obtain ⟨p1, p2⟩ := hr _ _ _ hl h1
      obtain ⟨q1, q2, q3⟩ := many_sz hr f _ _ _ _ (by omega) h2
      rw [List.length_append, List.length_singleton] at q1
      refine ⟨by omega, by omega, fun hP => q3 fun x hx => ?_⟩
      rcases List.mem_append.1 hx with hx | hx
      · exact hP x hx
      · rw [List.mem_singleton] at hx; subst hx; exact p1
    · injection h with h1 h2
      subst h1 h2
      exact ⟨by omega, Nat.le_refl _, fun h => h⟩
theorem number_ok {l m : List Tok} {n : Int} (h : number l = .ok n m) : m.length ≤ l.length := loc_len loc_number h
theorem name_ok {l m : List Tok} {t : Txt} (h : name l = .ok t m) : t.length ≤ 12 ∧ m.length ≤ l.length := by
  obtain ⟨h1, h2⟩ := next_ok h
  unfold nameB at h1
  simp only [Bool.and_eq_true, decide_eq_true_eq] at h1
  exact ⟨h1.1.1.2, h2⟩
theorem names_ok {l m : List Tok} {t : Txt} (h : names l = .ok t m) : t.length ≤ 12 ∧ m.length ≤ l.length := by
  obtain ⟨a, l1, h1, h2⟩ := bind_ok h
  obtain ⟨h3, h4⟩ := next_ok h1
  injection h2 with h5 h6
  subst h5 h6
  refine ⟨?_, h4⟩
  split
  · decide
  · rename_i hn
    rw [Bool.or_eq_true] at h3
    rcases h3 with h3 | h3
    · unfold nameB at h3
      simp only [Bool.and_eq_true, decide_eq_true_eq] at h3
      exact h3.1.1.2
    · exact absurd h3 hn
theorem count_ok {l m : List Tok} {n : Nat} (h : count l = .ok n m) : n ≤ 12 ∧ m.length ≤ l.length := by
  obtain ⟨a, l1, h1, h2⟩ := bind_ok h
  obtain ⟨h3, h4⟩ := next_ok h1
  injection h2 with h5 h6
  subst h5 h6
  rw [Bool.and_eq_true] at h3
  have := within_of h3.2
  exact ⟨by omega, h4⟩
theorem picks_len : ∀ (n : Nat) (ws : List ByteArray) (ns : List Int) (l : List Tok) (p : List ByteArray × List Int) (m : List Tok), picks n ws ns l = .ok p m → p.2.length = ns.length + n
  | 0, _, _, _, _, _, h => by injection h with h1 h2; subst h1; rfl
  | n + 1, ws, ns, l, p, m, h => by
    obtain ⟨w, l1, _, h2⟩ := bind_ok h
    obtain ⟨v, l2, _, h4⟩ := bind_ok h2
    have := picks_len n _ _ _ _ _ h4
    rw [List.length_append, List.length_singleton] at this
    omega
theorem states_len : ∀ (n : Nat) (ws : List ByteArray) (l : List Tok) (p : List ByteArray) (m : List Tok), states n ws l = .ok p m → p.length = ws.length + n
  | 0, _, _, _, _, h => by injection h with h1 h2; subst h1; rfl
  | n + 1, ws, l, p, m, h => by
    obtain ⟨w, l1, _, h2⟩ := bind_ok h
    have := states_len n _ _ _ _ h2
    rw [List.length_append, List.length_singleton] at this
    omega
theorem field1_ok {k : Nat} {nm : ByteArray} {l m : List Tok} {f : Fld} (h : field1 k nm l = .ok f m) : (Sc.wts f).length ≤ 12 := by
  unfold field1 at h
  split at h
  · obtain ⟨_, _, _, h⟩ := bind_ok h
    injection h with h1 h2; subst h1; exact Nat.zero_le _
  split at h
  · obtain ⟨n, l1, h1, h⟩ := bind_ok h
    obtain ⟨p, l2, h2, h⟩ := bind_ok h
    have := picks_len _ _ _ _ _ _ h2
    have hn := (count_ok h1).1
    injection h with h3 h4; subst h3
    show p.2.length ≤ 12
    rw [this]; simpa using hn
  split at h
  · obtain ⟨_, _, _, h⟩ := bind_ok h
    injection h with h1 h2; subst h1; exact Nat.zero_le _
  split at h
  · obtain ⟨_, _, _, h⟩ := bind_ok h
    obtain ⟨_, _, _, h⟩ := bind_ok h
    injection h with h1 h2; subst h1; exact Nat.zero_le _
  split at h
  · obtain ⟨_, _, _, h⟩ := bind_ok h
    obtain ⟨_, _, _, h⟩ := bind_ok h
    obtain ⟨_, _, _, h⟩ := bind_ok h
    obtain ⟨_, _, _, h⟩ := bind_ok h
    injection h with h1 h2; subst h1; exact Nat.zero_le _
  split at h
  · obtain ⟨_, _, _, h⟩ := bind_ok h
    obtain ⟨_, _, _, h⟩ := bind_ok h
    injection h with h1 h2; subst h1; exact Nat.zero_le _
  · obtain ⟨_, _, _, h⟩ := bind_ok h
    obtain ⟨_, _, _, h⟩ := bind_ok h
    obtain ⟨_, _, _, h⟩ := bind_ok h
    injection h with h1 h2; subst h1; exact Nat.zero_le _
theorem field_ok {l m : List Tok} {f : Fld} (h : field l = .ok f m) : (Sc.wts f).length ≤ 12 ∧ m.length ≤ l.length := by
  refine ⟨?_, loc_len loc_field h⟩
  rw [field_eq] at h
  obtain ⟨_, _, _, h⟩ := bind_ok h
  obtain ⟨_, _, _, h⟩ := bind_ok h
  exact field1_ok h
theorem kind_ok {B : Nat} {l m : List Tok} {k : Knd} (hl : l.length ≤ B) (h : kind l = .ok k m) : ((Sc.flds k).length ≤ B ∧ ∀ f ∈ Sc.flds k, (Sc.wts f).length ≤ 12) ∧ m.length ≤ l.length := by
  refine ⟨?_, loc_len loc_kind h⟩
  obtain ⟨_, l1, h1, h⟩ := bind_ok h
  obtain ⟨_, l2, h2, h⟩ := bind_ok h
  obtain ⟨_, l3, h3, h⟩ := bind_ok h
  obtain ⟨_, l4, h4, h⟩ := bind_ok h
  obtain ⟨fs, l5, h5, h⟩ := bind_ok h
  have a1 := loc_len (loc_need _) h1
  have a2 := (name_ok h2).2
  have a3 := number_ok h3
  have a4 := number_ok h4
  obtain ⟨q1, _, q3⟩ := many_sz (P := fun f : Fld => (Sc.wts f).length ≤ 12) (B := l4.length) (fun l a m _ h => field_ok h) _ _ _ _ _ (Nat.le_refl _) h5
  injection h with h6 h7
  subst h6
  exact ⟨by show fs.length ≤ B; simp at q1; omega, q3 (fun _ h => by cases h)⟩
theorem life_ok {B : Nat} {l m : List Tok} {x : Lif} (hl : l.length ≤ B) (h : life l = .ok x m) : (x.2.1.length ≤ 12 ∧ x.2.2.length ≤ B) ∧ m.length ≤ l.length := by
  refine ⟨?_, loc_len loc_life h⟩
  obtain ⟨_, l1, h1, h⟩ := bind_ok h
  obtain ⟨_, l2, h2, h⟩ := bind_ok h
  obtain ⟨n, l3, h3, h⟩ := bind_ok h
  obtain ⟨ss, l4, h4, h⟩ := bind_ok h
  obtain ⟨ms, l5, h5, h⟩ := bind_ok h
  have a1 := loc_len (loc_need _) h1
  have a2 := (name_ok h2).2
  have a3 := count_ok h3
  have a4 := loc_len (loc_states _ _) h4
  have a5 := states_len _ _ _ _ _ h4
  obtain ⟨q1, _, _⟩ := many_sz (P := fun _ : Int × Int => True) (B := l4.length) (fun l a m _ h => ⟨trivial, loc_len loc_move h⟩) _ _ _ _ _ (Nat.le_refl _) h5
  injection h with h6 h7
  subst h6
  exact ⟨by show ss.length ≤ 12; simp at a5; omega, by show ms.length ≤ B; simp at q1; omega⟩
theorem rule_ok {l m : List Tok} {r : Rul} (h : rule l = .ok r m) : (r.2.2.1.size ≤ 12 ∧ r.2.2.2.1.size ≤ 12) ∧ m.length ≤ l.length := by
  refine ⟨?_, loc_len loc_rule h⟩
  obtain ⟨_, l1, _, h⟩ := bind_ok h
  obtain ⟨_, l2, _, h⟩ := bind_ok h
  obtain ⟨_, l3, _, h⟩ := bind_ok h
  obtain ⟨a, l4, h4, h⟩ := bind_ok h
  obtain ⟨b, l5, h5, h⟩ := bind_ok h
  obtain ⟨_, l6, _, h⟩ := bind_ok h
  have a4 := (names_ok h4).1
  have a5 := (names_ok h5).1
  injection h with h6 h7
  subst h6
  constructor
  · show (ofT a).size ≤ 12; unfold ofT; simpa [ByteArray.size] using a4
  · show (ofT b).size ≤ 12; unfold ofT; simpa [ByteArray.size] using a5
theorem schema_sz {l m : List Tok} {x : Sch} (hl : l.length ≤ 8192) (h : schema l = .ok x m) : Sz x := by
  obtain ⟨_, l1, h1, h⟩ := bind_ok h
  obtain ⟨_, l2, h2, h⟩ := bind_ok h
  obtain ⟨ks, l3, h3, h⟩ := bind_ok h
  obtain ⟨ls, l4, h4, h⟩ := bind_ok h
  obtain ⟨rs, l5, h5, h⟩ := bind_ok h
  have a1 := loc_len (loc_need _) h1
  have a2 := number_ok h2
  obtain ⟨_, b3, q3⟩ := many_sz (P := fun k : Knd => (Sc.flds k).length ≤ 8192 ∧ ∀ f ∈ Sc.flds k, (Sc.wts f).length ≤ 12) (B := 8192) (fun l a m hl h => kind_ok hl h) _ _ _ _ _ (by omega) h3
  obtain ⟨_, b4, q4⟩ := many_sz (P := fun x : Lif => x.2.1.length ≤ 12 ∧ x.2.2.length ≤ 8192) (B := 8192) (fun l a m hl h => life_ok hl h) _ _ _ _ _ (by omega) h4
  obtain ⟨_, b5, q5⟩ := many_sz (P := fun r : Rul => r.2.2.1.size ≤ 12 ∧ r.2.2.2.1.size ≤ 12) (B := 8192) (fun l a m hl h => rule_ok h) _ _ _ _ _ (by omega) h5
  injection h with h6 h7
  subst h6
  refine ⟨fun k hk => ?_, fun x hx => ?_, fun r hr => ?_⟩
  · have := q3 (fun _ h => by cases h) k hk
    exact ⟨by omega, fun f hf => by have := this.2 f hf; omega⟩
  · have := q4 (fun _ h => by cases h) x hx
    omega
  · have := q5 (fun _ h => by cases h) r hr
    omega
end Sx
end Go.Proofs.YtmplaikgbeeikaaGreatDoor
namespace Go.Proofs.YtmplaikgbeeikaaGreatDoor
open Go Go.RowKit
section
variable {w : World} {g : Nat} {st : Sx.St} {M : List Nat} {bx : List Box} {rs : List Rw} {L : List (List Nat → World → Prop)} {W : World}
theorem isK_any (h : PH (pkP w g) st M bx rs L W) : Calls Tryz.prog 35 #[.string ⟨#[107, 105, 110, 100]⟩] W fun e W' => ∃ N, e = .returned (.func (.func 78) #[] #[.pointer (some ⟨N, 0, none⟩)]) ∧ PH (pkP w g) st M bx rs (IsB N Sx.sKind :: L) W' := is_any Sx.sKind h
theorem isL_any (h : PH (pkP w g) st M bx rs L W) : Calls Tryz.prog 35 #[.string ⟨#[108, 105, 102, 101]⟩] W fun e W' => ∃ N, e = .returned (.func (.func 78) #[] #[.pointer (some ⟨N, 0, none⟩)]) ∧ PH (pkP w g) st M bx rs (IsB N Sx.sLife :: L) W' := is_any Sx.sLife h
theorem isR_any (h : PH (pkP w g) st M bx rs L W) : Calls Tryz.prog 35 #[.string ⟨#[114, 117, 108, 101]⟩] W fun e W' => ∃ N, e = .returned (.func (.func 78) #[] #[.pointer (some ⟨N, 0, none⟩)]) ∧ PH (pkP w g) st M bx rs (IsB N Sx.sRule :: L) W' := is_any Sx.sRule h
theorem sK_any (he : SEnv w) {N : Nat} (h : PH (pkP w g) st M bx rs (IsB N Sx.sKind :: L) W) : Calls Tryz.prog 34 #[.pointer (some ⟨g, 0, none⟩), .func (.func 78) #[] #[.pointer (some ⟨N, 0, none⟩)], .func (.func 36) #[.pointer (some ⟨g, 0, none⟩)] #[]] W (RdL (pkP w g) (fun l => Sx.many (fun t => t == Sx.sKind) Sx.kind l.length [] l) st bx rs L) :=
  (someK_any he (by decide) (.head _) h).mono fun _ _ ⟨l, A, c, st', M', h1, h2, h3, h4, h5, h6⟩ => ⟨l, A, c, st', M', h1, h2, h3, h4, h5, h6.less fun P hP => by
    rcases List.mem_cons.1 hP with rfl | hP
    · exact .head _
    · exact .tail _ (.tail _ hP)⟩
theorem sL_any (he : SEnv w) {N : Nat} (h : PH (pkP w g) st M bx rs (IsB N Sx.sLife :: L) W) : Calls Tryz.prog 37 #[.pointer (some ⟨g, 0, none⟩), .func (.func 78) #[] #[.pointer (some ⟨N, 0, none⟩)], .func (.func 38) #[.pointer (some ⟨g, 0, none⟩)] #[]] W (RdL (pkP w g) (fun l => Sx.many (fun t => t == Sx.sLife) Sx.life l.length [] l) st bx rs L) :=
  (someL_any he (by decide) (.head _) h).mono fun _ _ ⟨l, A, c, st', M', h1, h2, h3, h4, h5, h6⟩ => ⟨l, A, c, st', M', h1, h2, h3, h4, h5, h6.less fun P hP => by
    rcases List.mem_cons.1 hP with rfl | hP
    · exact .head _
    · exact .tail _ (.tail _ hP)⟩
theorem sR_any (he : SEnv w) {N : Nat} (h : PH (pkP w g) st M bx rs (IsB N Sx.sRule :: L) W) : Calls Tryz.prog 39 #[.pointer (some ⟨g, 0, none⟩), .func (.func 78) #[] #[.pointer (some ⟨N, 0, none⟩)], .func (.func 40) #[.pointer (some ⟨g, 0, none⟩)] #[]] W (RdL (pkP w g) (fun l => Sx.many (fun t => t == Sx.sRule) Sx.rule l.length [] l) st bx rs L) :=
  (someR_any he (by decide) (.head _) h).mono fun _ _ ⟨l, A, c, st', M', h1, h2, h3, h4, h5, h6⟩ => ⟨l, A, c, st', M', h1, h2, h3, h4, h5, h6.less fun P hP => by
    rcases List.mem_cons.1 hP with rfl | hP
    · exact .head _
    · exact .tail _ (.tail _ hP)⟩
end
theorem Held.put0 {w W : World} {G M : List Nat} {L : List (List Nat → World → Prop)} {N : Nat} {t : TypeId} {cs : Array Value} {bx2 : List Box} (h : Held w G M ((N, t, cs) :: bx2) L W) (i : Nat) (u : Value) : Held w G M ((N, t, cs.setIfInBounds i u) :: bx2) L (W.setCell ⟨N, i, none⟩ u) := Held.set_ (bx1 := []) h i u
theorem Sx.nx_fin {α : Type} {p : List Sx.Tok → Sx.Res α} {l0 l : List Sx.Tok} {f : Bool} {x : α} (h : Sx.Nx p (l0, false) x (l, f)) : (f = false → p l0 = .ok x l) ∧ (f = true → p l0 = .bad l) := by
  rw [Sx.nx_iff] at h
  cases hp : p l0 with
  | ok a m =>
    rw [hp] at h
    obtain ⟨h0, h⟩ := h
    injection h with h1 h2
    subst h0 h1 h2
    exact ⟨fun _ => rfl, fun h => by cases h⟩
  | bad m =>
    rw [hp] at h
    injection h with h1 h2
    subst h1 h2
    exact ⟨fun h => (by cases h), fun _ => rfl⟩
/-- What Parse gives: the schema, the place, the error. -/
def PParseP (r : Sch × Int × Int) (w : World) (e : Ending) (w' : World) : Prop := ∃ us, e = .returned (.tuple #[.agg us.toArray, .int .i64 r.2.1, .int .i64 r.2.2]) ∧ Mem.rep [] w' r.1 us ∧ Below w.heap.size w w'
theorem noSch_rep (w : World) : Mem.rep [] w Sx.noSch [.int .i64 0, .slice none 0 0, .slice none 0 0, .slice none 0 0] :=
  ⟨[_], _, rfl, ⟨rfl, by constructor <;> decide⟩, [_], _, rfl, ⟨none, 0, rfl, Nat.le_refl _, by decide, .nil⟩, [_], _, rfl, ⟨none, 0, rfl, Nat.le_refl _, by decide, .nil⟩, ⟨none, 0, rfl, Nat.le_refl _, by decide, .nil⟩⟩
set_option maxRecDepth 100000 in
set_option maxHeartbeats 16000000 in
theorem pparse_any (s : ByteArray) (w : World) (hs : s.size ≤ 9223372036854775807) (he : SEnv w) : Calls Tryz.prog 13 #[.string s] w (PParseP (Sx.parse s.data.toList) w) := by
  obtain ⟨n, hn⟩ : ∃ n, s.size = n := ⟨_, rfl⟩
  have hln : s.data.toList.length = n := by rw [Vm.strLn, hn]
  have hsn : s.size = n := hn
  by_cases hl : 8192 < n
  · have k1 : (8192 : Int) < (n : Int) := by omega
    have hp : Sx.parse s.data.toList = (Sx.noSch, 8192, 4) := by unfold Sx.parse; rw [hln, if_pos hl]
    rw [hp]
    obtain ⟨Nr, hNr⟩ : ∃ n, w.heap.size = n := ⟨_, rfl⟩
    have T := Lib.hid ((held0 w [] (fun _ h => by cases h)).new #[.int .i64 0, .slice none 0 0, .slice none 0 0, .slice none 0 0] 28 hNr)
    have HNr := Lib.hid hNr
    clear hp hln hs he hn hNr
    go_enter Tryz.func13, Tryz.ntmps13
    go_upto_region 2 with fail
    rw [HNr.out]
    generalize w.alloc (.cells #[.int .i64 0, .slice none 0 0, .slice none 0 0, .slice none 0 0] 28) = W1 at *
    have B := T.out.box (.head _); have z0 := B.cell 0; have z1 := B.cell 1; have z2 := B.cell 2; have z3 := B.cell 3; have f0 := B.frozen 0; have f1 := B.frozen 1; have f2 := B.frozen 2; have f3 := B.frozen 3; simp at z0 z1 z2 z3; dsimp only at f0 f1 f2 f3; clear B
    have T2 := Lib.hid (show Held w [] [Nr] [(Nr, 28, #[.int .i64 0, .slice none 0 0, .slice none 0 0, .slice none 0 0])] [] _ from (((T.out.put0 0 (.int .i64 0)).put0 1 (.slice none 0 0)).put0 2 (.slice none 0 0)).put0 3 (.slice none 0 0))
    go_wp2_with fail
    clear z0 z1 z2 z3 f0 f1 f2 f3
    generalize (((W1.setCell ⟨Nr, 0, none⟩ (.int .i64 0)).setCell ⟨Nr, 1, none⟩ (.slice none 0 0)).setCell ⟨Nr, 2, none⟩ (.slice none 0 0)).setCell ⟨Nr, 3, none⟩ (.slice none 0 0) = W2 at *
    have B := T2.out.box (.head _); have y0 := B.cell 0; have y1 := B.cell 1; have y2 := B.cell 2; have y3 := B.cell 3
    simp at y0 y1 y2 y3
    refine bodyPost_ret (v := .tuple #[.agg #[.int .i64 0, .slice none 0 0, .slice none 0 0, .slice none 0 0], .int .i64 8192, .int .i64 4]) ?_ rfl ?_
    · simp [results, Tryz.results13, go_sem, y0, y1, y2, y3]
    · exact ⟨[.int .i64 0, .slice none 0 0, .slice none 0 0, .slice none 0 0], rfl, noSch_rep _, T2.out.bl⟩
  · have k1 : ¬ (8192 : Int) < (n : Int) := by omega
    obtain ⟨Nr, hNr⟩ : ∃ n, w.heap.size = n := ⟨_, rfl⟩
    have CS := Lib.hid (fun W (hW : Nr < W.heap.size) => pscanG_any [Nr] s W (fun g hg => by rw [List.mem_singleton] at hg; subst hg; exact hW) (by omega))
    have T := Lib.hid ((HR.start (held0 w [] (fun _ h => by cases h))).new #[.int .i64 0, .slice none 0 0, .slice none 0 0, .slice none 0 0] 28 hNr)
    have HE := Lib.hid he
    have HNr := Lib.hid hNr
    have HP1 := fun h : Sx.schema (Sx.toks s.data.toList) = .bad [] => show Sx.parse s.data.toList = (Sx.noSch, (Sx.stopAt s.data.toList : Int), 2) by unfold Sx.parse; rw [hln, if_neg hl, h]
    have HP2 := fun t l (h : Sx.schema (Sx.toks s.data.toList) = .bad (t :: l)) => show Sx.parse s.data.toList = (Sx.noSch, (t.2 : Int), 2) by unfold Sx.parse; rw [hln, if_neg hl, h]
    have HP3 := fun x t l (h : Sx.schema (Sx.toks s.data.toList) = .ok x (t :: l)) => show Sx.parse s.data.toList = (Sx.noSch, (t.2 : Int), 2) by unfold Sx.parse; rw [hln, if_neg hl, h]
    have HP4 := fun x (h : Sx.schema (Sx.toks s.data.toList) = .ok x []) (h2 : Sx.stopAt s.data.toList < n) => show Sx.parse s.data.toList = (Sx.noSch, (Sx.stopAt s.data.toList : Int), 2) by unfold Sx.parse; rw [hln, if_neg hl, h]; exact if_pos h2
    have HP5 := fun x (h : Sx.schema (Sx.toks s.data.toList) = .ok x []) (h2 : ¬ Sx.stopAt s.data.toList < n) (h3 : Sx.valid x = 0) => show Sx.parse s.data.toList = (x, 0, 0) by unfold Sx.parse; rw [hln, if_neg hl, h]; exact (if_neg h2).trans (if_pos h3)
    have HP6 := fun x (h : Sx.schema (Sx.toks s.data.toList) = .ok x []) (h2 : ¬ Sx.stopAt s.data.toList < n) (h3 : ¬ Sx.valid x = 0) => show Sx.parse s.data.toList = (Sx.noSch, 0, 4) by unfold Sx.parse; rw [hln, if_neg hl, h]; exact (if_neg h2).trans (if_neg h3)
    clear hs he hNr hln
    generalize Sx.parse s.data.toList = pr at *
    obtain ⟨tks, htk⟩ : ∃ l, Sx.toks s.data.toList = l := ⟨_, rfl⟩
    obtain ⟨sat, hsat⟩ : ∃ l, Sx.stopAt s.data.toList = l := ⟨_, rfl⟩
    have CS2 := Lib.hid (fun W (hW : Nr < W.heap.size) => show Calls Tryz.prog 31 #[.string s] W fun e w' => ∃ A c, e = .returned (.tuple #[.slice A tks.length c, .int .i64 (sat : Nat)]) ∧ tks.length ≤ c ∧ c ≤ 9223372036854775807 ∧ SlAt [Nr] w' A (tks.map tokP) ∧ TokOk tks ∧ Below W.heap.size W w' from by rw [← htk, ← hsat]; exact CS.out W hW)
    rw [htk] at HP1 HP2 HP3 HP4 HP5 HP6
    rw [hsat] at HP1 HP4 HP5 HP6
    replace HP1 := Lib.hid HP1; replace HP2 := Lib.hid HP2; replace HP3 := Lib.hid HP3; replace HP4 := Lib.hid HP4; replace HP5 := Lib.hid HP5; replace HP6 := Lib.hid HP6
    clear CS htk hsat
    go_enter Tryz.func13, Tryz.ntmps13
    go_upto_region 1 with fail
    rw [HNr.out]
    generalize w.alloc (.cells #[.int .i64 0, .slice none 0 0, .slice none 0 0, .slice none 0 0] 28) = W1 at *
    have hlt := T.out.h.mb Nr (.head _)
    go_upto_region 4 with (go_at_call 31; ((with_reducible refine (CS2.out _ hlt).mono ?_)); rintro e w2 ⟨A, c, rfl, d1, d2, d3, d4, hb2⟩; replace T := Lib.hid (T.out.below hb2); have D := Lib.hid (show tks.length ≤ c ∧ c ≤ 9223372036854775807 ∧ SlAt [Nr] w2 A (tks.map tokP) ∧ TokOk tks from ⟨d1, d2, d3, d4⟩); clear hb2 d1 d2 d3 d4)
    obtain ⟨Np, hNp⟩ : ∃ n, w2.heap.size = n := ⟨_, rfl⟩
    have P := Lib.hid (show PH (pkP w Np) (tks, false) (Np :: [Nr]) [(Nr, 28, #[.int .i64 0, .slice none 0 0, .slice none 0 0, .slice none 0 0])] [] [] _ from ⟨_, (T.out.new #[.slice A tks.length c, .bool false] 79 hNp).add (pc_keeps (tks, false) _) ⟨A, c, rfl, D.out.1, D.out.2.1, (D.out.2.2.1.sub (fun g hg => by
      rcases List.mem_cons.1 hg with rfl | hg
      · exact .inr (Nat.le_of_eq hNp)
      · exact .inl hg)).keep (Chg.of_below ((Below.refl _ _).alloc (Nat.le_refl _) _)), D.out.2.2.2⟩⟩)
    have HTL := Lib.hid D.out.2.2.2.1
    clear D T hlt
    go_upto_region 5 with fail
    generalize w2.alloc (.cells #[.slice A tks.length c, .bool false] 79) = w3 at *
    clear hNp
    go_upto_region 6 with (go_at_call 32; ((with_reducible refine (needSchema_any P.out).mono ?_)); rintro e w4 ⟨st1, rfl, x1, h1⟩; replace P := Lib.hid h1; have X1 := Lib.hid x1; clear h1 x1)
    go_upto_region 7 with (go_at_call 33; ((with_reducible refine (num_any' HE.out P.out).mono ?_)); rintro e w5 ⟨v, st2, rfl, i2, x2, h2⟩; replace P := Lib.hid h2; have X2 := Lib.hid x2; have I2 := Lib.hid i2; clear h2 x2 i2)
    obtain ⟨Nx, hNx⟩ : ∃ n, w5.heap.size = n := ⟨_, rfl⟩
    replace P := Lib.hid (P.out.new #[.int .i64 v, .slice none 0 0, .slice none 0 0, .slice none 0 0] 28 hNx)
    rw [hNx]
    clear hNx
    generalize w5.alloc (.cells #[.int .i64 v, .slice none 0 0, .slice none 0 0, .slice none 0 0] 28) = w6 at *
    have B := P.out.box (.head _); have z0 := B.cell 0; have z1 := B.cell 1; have z2 := B.cell 2; have z3 := B.cell 3; have f0 := B.frozen 0; have f1 := B.frozen 1; have f2 := B.frozen 2; have f3 := B.frozen 3; simp at z0 z1 z2 z3; dsimp only at f0 f1 f2 f3; clear B
    go_upto_region 8 with (first | (go_at_call 35; ((with_reducible refine (isK_any P.out).mono ?_)); rintro e w6 ⟨Ni, rfl, h6⟩; replace P := Lib.hid h6; clear h6) | (go_at_call 34; ((with_reducible refine (sK_any HE.out P.out).mono ?_)); rintro e w7 ⟨ks, A3, c3, st3, M3, rfl, d1, d2, d3, x3, h7⟩; replace P := Lib.hid h7; have X3 := Lib.hid x3; have D3 := Lib.hid (show ks.length ≤ c3 ∧ c3 ≤ 9223372036854775807 from ⟨d1, d2⟩); clear h7 x3 d1 d2 d3 z0 z1 z2 z3 f0 f1 f2 f3; have B := P.out.box (.head _); have z0 := B.cell 0; have z1 := B.cell 1; have z2 := B.cell 2; have z3 := B.cell 3; have f0 := B.frozen 0; have f1 := B.frozen 1; have f2 := B.frozen 2; have f3 := B.frozen 3; simp at z0 z1 z2 z3; dsimp only at f0 f1 f2 f3; clear B))
    replace P := Lib.hid (P.out.set0 1 (.slice A3 ks.length c3))
    replace P := Lib.hid (show PH (pkP w Np) st3 M3 [(Nx, 28, #[.int .i64 v, .slice A3 ks.length c3, .slice none 0 0, .slice none 0 0]), (Nr, 28, #[.int .i64 0, .slice none 0 0, .slice none 0 0, .slice none 0 0])] [] _ _ from P.out)
    clear z0 z1 z2 z3 f0 f1 f2 f3
    generalize w7.setCell ⟨Nx, 1, none⟩ (.slice A3 ks.length c3) = w8 at *
    have B := P.out.box (.head _); have z0 := B.cell 0; have z1 := B.cell 1; have z2 := B.cell 2; have z3 := B.cell 3; have f0 := B.frozen 0; have f1 := B.frozen 1; have f2 := B.frozen 2; have f3 := B.frozen 3; simp at z0 z1 z2 z3; dsimp only at f0 f1 f2 f3; clear B
    go_upto_region 9 with (first | (go_at_call 35; ((with_reducible refine (isL_any P.out).mono ?_)); rintro e w6 ⟨Ni, rfl, h6⟩; replace P := Lib.hid h6; clear h6) | (go_at_call 37; ((with_reducible refine (sL_any HE.out P.out).mono ?_)); rintro e w7 ⟨ls, A4, c4, st4, M4, rfl, d1, d2, d3, x4, h7⟩; replace P := Lib.hid h7; have X4 := Lib.hid x4; have D4 := Lib.hid (show ls.length ≤ c4 ∧ c4 ≤ 9223372036854775807 from ⟨d1, d2⟩); clear h7 x4 d1 d2 d3 z0 z1 z2 z3 f0 f1 f2 f3; have B := P.out.box (.head _); have z0 := B.cell 0; have z1 := B.cell 1; have z2 := B.cell 2; have z3 := B.cell 3; have f0 := B.frozen 0; have f1 := B.frozen 1; have f2 := B.frozen 2; have f3 := B.frozen 3; simp at z0 z1 z2 z3; dsimp only at f0 f1 f2 f3; clear B))
    replace P := Lib.hid (P.out.set0 2 (.slice A4 ls.length c4))
    replace P := Lib.hid (show PH (pkP w Np) st4 M4 [(Nx, 28, #[.int .i64 v, .slice A3 ks.length c3, .slice A4 ls.length c4, .slice none 0 0]), (Nr, 28, #[.int .i64 0, .slice none 0 0, .slice none 0 0, .slice none 0 0])] [] _ _ from P.out)
    clear z0 z1 z2 z3 f0 f1 f2 f3
    generalize w7.setCell ⟨Nx, 2, none⟩ (.slice A4 ls.length c4) = w8 at *
    have B := P.out.box (.head _); have z0 := B.cell 0; have z1 := B.cell 1; have z2 := B.cell 2; have z3 := B.cell 3; have f0 := B.frozen 0; have f1 := B.frozen 1; have f2 := B.frozen 2; have f3 := B.frozen 3; simp at z0 z1 z2 z3; dsimp only at f0 f1 f2 f3; clear B
    go_upto_region 10 with (first | (go_at_call 35; ((with_reducible refine (isR_any P.out).mono ?_)); rintro e w6 ⟨Ni, rfl, h6⟩; replace P := Lib.hid h6; clear h6) | (go_at_call 39; ((with_reducible refine (sR_any HE.out P.out).mono ?_)); rintro e w7 ⟨rs, A5, c5, st5, M5, rfl, d1, d2, d3, x5, h7⟩; replace P := Lib.hid h7; have X5 := Lib.hid x5; have D5 := Lib.hid (show rs.length ≤ c5 ∧ c5 ≤ 9223372036854775807 from ⟨d1, d2⟩); clear h7 x5 d1 d2 d3 z0 z1 z2 z3 f0 f1 f2 f3; have B := P.out.box (.head _); have z0 := B.cell 0; have z1 := B.cell 1; have z2 := B.cell 2; have z3 := B.cell 3; have f0 := B.frozen 0; have f1 := B.frozen 1; have f2 := B.frozen 2; have f3 := B.frozen 3; simp at z0 z1 z2 z3; dsimp only at f0 f1 f2 f3; clear B))
    replace P := Lib.hid (P.out.set0 3 (.slice A5 rs.length c5))
    replace P := Lib.hid (show PH (pkP w Np) st5 M5 [(Nx, 28, #[.int .i64 v, .slice A3 ks.length c3, .slice A4 ls.length c4, .slice A5 rs.length c5]), (Nr, 28, #[.int .i64 0, .slice none 0 0, .slice none 0 0, .slice none 0 0])] [] _ _ from P.out)
    clear z0 z1 z2 z3 f0 f1 f2 f3
    generalize w7.setCell ⟨Nx, 3, none⟩ (.slice A5 rs.length c5) = w8 at *
    have B := P.out.box (.head _); have z0 := B.cell 0; have z1 := B.cell 1; have z2 := B.cell 2; have z3 := B.cell 3; have f0 := B.frozen 0; have f1 := B.frozen 1; have f2 := B.frozen 2; have f3 := B.frozen 3; simp at z0 z1 z2 z3; dsimp only at f0 f1 f2 f3; clear B
    have XS := Lib.hid (show Sx.Nx Sx.schema (tks, false) (v, ks, ls, rs) st5 from Sx.nx_bind X1.out (Sx.nx_bind X2.out (Sx.nx_bind X3.out (Sx.nx_bind X4.out (Sx.nx_bind X5.out (Sx.nx_ret _ _))))))
    clear X1 X2 X3 X4 X5
    have C := P.out.box (.tail _ (.head _)); have y0 := C.cell 0; have y1 := C.cell 1; have y2 := C.cell 2; have y3 := C.cell 3; have g0 := C.frozen 0; have g1 := C.frozen 1; have g2 := C.frozen 2; have g3 := C.frozen 3
    simp at y0 y1 y2 y3
    dsimp only at g0 g1 g2 g3
    clear C
    have PZ := Lib.hid (show PH (pkP w Np) st5 M5 [(Nr, 28, #[.int .i64 0, .slice none 0 0, .slice none 0 0, .slice none 0 0]), (Nx, 28, #[.int .i64 v, .slice A3 ks.length c3, .slice A4 ls.length c4, .slice A5 rs.length c5])] [] _ _ from (((P.out.bswap.set0 0 (.int .i64 0)).set0 1 (.slice none 0 0)).set0 2 (.slice none 0 0)).set0 3 (.slice none 0 0))
    obtain ⟨cs, hb, A8, c8, rfl, hc1, hc2, hsl, hok⟩ := P.out.pbox
    obtain ⟨l, f⟩ := st5
    have p0 := hb.cell 0
    have p1 := hb.cell 1
    simp at p0 p1
    obtain ⟨xs1, xs2⟩ := Sx.nx_fin XS.out
    clear hb
    cases l with
    | cons t r =>
      have HQ := Lib.hid (show pr = (Sx.noSch, (t.2 : Int), 2) by
        cases f
        · exact HP3.out _ _ _ (xs1 rfl)
        · exact HP2.out _ _ (xs2 rfl))
      obtain ⟨b, o, rfl, hbM, _, d1⟩ := tokP_at hsl
      obtain ⟨cs9, H9⟩ := P.out.it
      have hNrM := (H9.h.bs _ (.tail _ (.tail _ (.head _)))).1
      have hnd := H9.h.nd
      simp only [List.map_cons, List.map_nil, List.nodup_cons, List.mem_cons, List.not_mem_nil, or_false, not_or] at hnd
      have hne1 : Np ≠ Nr := hnd.1.2
      have hne2 : b ≠ Nr := fun e => hbM (e ▸ hNrM)
      have hne3 : Nr ≠ Np := fun e => hne1 e.symm
      have hne4 : Nr ≠ b := fun e => hne2 e.symm
      clear hbM H9 hNrM hnd
      obtain ⟨m, hm⟩ : ∃ m, (t :: r).length = m := ⟨_, rfl⟩
      have hm0 : 0 < m := by rw [← hm, List.length_cons]; omega
      have z9 : (0 : Int) < (m : Int) := by omega
      have p0 : w8.cell? ⟨Np, 0, none⟩ = some (.slice (some ⟨b, o, none⟩) m c8) := by rw [← hm]; simpa using p0
      clear hsl hok hm hc1 xs1 xs2 HP1 HP2 HP3 HP4 HP5 HP6 CS2
      go_wp2_with fail
      go_region
      go_wp2_with fail
      clear z0 z1 z2 z3 f0 f1 f2 f3 y0 y1 y2 y3 g0 g1 g2 g3 p0 p1
      have PZ2 := Lib.hid (PZ.out.drew)
      generalize (((w8.setCell ⟨Nr, 0, none⟩ (.int .i64 0)).setCell ⟨Nr, 1, none⟩ (.slice none 0 0)).setCell ⟨Nr, 2, none⟩ (.slice none 0 0)).setCell ⟨Nr, 3, none⟩ (.slice none 0 0) = w9 at *
      have B := PZ2.out.box (.head _); have y0 := B.cell 0; have y1 := B.cell 1; have y2 := B.cell 2; have y3 := B.cell 3
      simp at y0 y1 y2 y3
      refine bodyPost_ret (v := .tuple #[.agg #[.int .i64 0, .slice none 0 0, .slice none 0 0, .slice none 0 0], .int .i64 (t.2 : Int), .int .i64 2]) ?_ rfl ?_
      · simp [results, Tryz.results13, go_sem, y0, y1, y2, y3]
      · exact ⟨[.int .i64 0, .slice none 0 0, .slice none 0 0, .slice none 0 0], by rw [HQ.out], by rw [HQ.out]; exact noSch_rep _, PZ2.out.bl⟩
    | nil =>
      have p0 : w8.cell? ⟨Np, 0, none⟩ = some (.slice A8 0 c8) := by simpa using p0
      clear hsl hok hc1
      cases f
      · have hsc := xs1 rfl
        by_cases hsat : sat < n
        · have HQ := Lib.hid (HP4.out _ hsc hsat)
          have z9 : (sat : Int) < (n : Int) := by omega
          clear hsc xs1 xs2 HP1 HP2 HP3 HP4 HP5 HP6 CS2
          go_wp2_with fail
          clear z0 z1 z2 z3 f0 f1 f2 f3 y0 y1 y2 y3 g0 g1 g2 g3 p0 p1
          have PZ2 := Lib.hid (PZ.out)
          generalize (((w8.setCell ⟨Nr, 0, none⟩ (.int .i64 0)).setCell ⟨Nr, 1, none⟩ (.slice none 0 0)).setCell ⟨Nr, 2, none⟩ (.slice none 0 0)).setCell ⟨Nr, 3, none⟩ (.slice none 0 0) = w9 at *
          have B := PZ2.out.box (.head _); have y0 := B.cell 0; have y1 := B.cell 1; have y2 := B.cell 2; have y3 := B.cell 3
          simp at y0 y1 y2 y3
          refine bodyPost_ret (v := .tuple #[.agg #[.int .i64 0, .slice none 0 0, .slice none 0 0, .slice none 0 0], .int .i64 (sat : Int), .int .i64 2]) ?_ rfl ?_
          · simp [results, Tryz.results13, go_sem, y0, y1, y2, y3]
          · exact ⟨[.int .i64 0, .slice none 0 0, .slice none 0 0, .slice none 0 0], by rw [HQ.out], by rw [HQ.out]; exact noSch_rep _, PZ2.out.bl⟩
        · have z9 : (n : Int) ≤ (sat : Int) := by omega
          have HXR := Lib.hid (show Mem.rep M5 w8 ((v, ks, ls, rs) : Sch) [.int .i64 v, .slice A3 ks.length c3, .slice A4 ls.length c4, .slice A5 rs.length c5] from ⟨[_], _, rfl, ⟨rfl, I2.out⟩, [_], _, rfl, ⟨A3, c3, rfl, D3.out.1, D3.out.2, P.out.fact (.tail _ (.tail _ (.head _)))⟩, [_], _, rfl, ⟨A4, c4, rfl, D4.out.1, D4.out.2, P.out.fact (.tail _ (.head _))⟩, ⟨A5, c5, rfl, D5.out.1, D5.out.2, P.out.fact (.head _)⟩⟩)
          have CV := Lib.hid (show Calls Tryz.prog 21 #[.agg #[.int .i64 v, .slice A3 ks.length c3, .slice A4 ls.length c4, .slice A5 rs.length c5]] w8 fun e w' => e = .returned (.int .i64 (Sx.valid (v, ks, ls, rs))) ∧ Below w8.heap.size w8 w' from valid_any (v, ks, ls, rs) _ w8 (Mem.sub HXR.out (fun g hg => by cases hg)) (Sx.schema_sz HTL.out hsc) (HE.out.to P.out.bl))
          replace P := Lib.hid (P.out.add (keeps_rep ((v, ks, ls, rs) : Sch) _) HXR.out)
          have HQ5 := Lib.hid (HP5.out _ hsc hsat)
          have HQ6 := Lib.hid (HP6.out _ hsc hsat)
          obtain ⟨vv, hvv⟩ : ∃ z, Sx.valid (v, ks, ls, rs) = z := ⟨_, rfl⟩
          rw [hvv] at CV HQ5 HQ6
          clear hsc hvv xs1 xs2 HP1 HP2 HP3 HP4 HP5 HP6 CS2 PZ HXR
          by_cases hv0 : vv = 0
          · subst hv0
            have HQ := Lib.hid (HQ5.out rfl)
            clear HQ5 HQ6
            go_upto_region 16 with (go_at_call 21; ((with_reducible refine (CV.out).mono ?_)); rintro e wv ⟨rfl, hb2⟩; replace P := Lib.hid (P.out.below hb2); clear hb2; clear z0 z1 z2 z3 f0 f1 f2 f3 y0 y1 y2 y3 g0 g1 g2 g3; have B := P.out.box (.head _); have z0 := B.cell 0; have z1 := B.cell 1; have z2 := B.cell 2; have z3 := B.cell 3; have f0 := B.frozen 0; have f1 := B.frozen 1; have f2 := B.frozen 2; have f3 := B.frozen 3; simp at z0 z1 z2 z3; dsimp only at f0 f1 f2 f3; clear B)
            have C := P.out.box (.tail _ (.head _)); have y0 := C.cell 0; have y1 := C.cell 1; have y2 := C.cell 2; have y3 := C.cell 3; have g0 := C.frozen 0; have g1 := C.frozen 1; have g2 := C.frozen 2; have g3 := C.frozen 3
            simp at y0 y1 y2 y3
            dsimp only at g0 g1 g2 g3
            clear C
            have PZ := Lib.hid (show PH (pkP w Np) ([], false) M5 [(Nr, 28, #[.int .i64 v, .slice A3 ks.length c3, .slice A4 ls.length c4, .slice A5 rs.length c5]), (Nx, 28, #[.int .i64 v, .slice A3 ks.length c3, .slice A4 ls.length c4, .slice A5 rs.length c5])] [] _ _ from (((P.out.bswap.set0 0 (.int .i64 v)).set0 1 (.slice A3 ks.length c3)).set0 2 (.slice A4 ls.length c4)).set0 3 (.slice A5 rs.length c5))
            go_wp2_with fail
            clear z0 z1 z2 z3 f0 f1 f2 f3 y0 y1 y2 y3 g0 g1 g2 g3
            generalize (((wv.setCell ⟨Nr, 0, none⟩ (.int .i64 v)).setCell ⟨Nr, 1, none⟩ (.slice A3 ks.length c3)).setCell ⟨Nr, 2, none⟩ (.slice A4 ls.length c4)).setCell ⟨Nr, 3, none⟩ (.slice A5 rs.length c5) = w9 at *
            have B := PZ.out.box (.head _); have y0 := B.cell 0; have y1 := B.cell 1; have y2 := B.cell 2; have y3 := B.cell 3
            simp at y0 y1 y2 y3
            refine bodyPost_ret (v := .tuple #[.agg #[.int .i64 v, .slice A3 ks.length c3, .slice A4 ls.length c4, .slice A5 rs.length c5], .int .i64 0, .int .i64 0]) ?_ rfl ?_
            · simp [results, Tryz.results13, go_sem, y0, y1, y2, y3]
            · exact ⟨[.int .i64 v, .slice A3 ks.length c3, .slice A4 ls.length c4, .slice A5 rs.length c5], by rw [HQ.out], by rw [HQ.out]; exact Mem.sub (PZ.out.fact (.head _)) (fun g hg => by cases hg), PZ.out.bl⟩
          · have HQ := Lib.hid (HQ6.out hv0)
            have q1 : (vv == 0) = false := by simpa using hv0
            have q2 : (vv != 0) = true := by simpa using hv0
            clear HQ5 HQ6 hv0
            go_upto_region 15 with (go_at_call 21; ((with_reducible refine (CV.out).mono ?_)); rintro e wv ⟨rfl, hb2⟩; replace P := Lib.hid (P.out.below hb2); clear hb2; clear z0 z1 z2 z3 f0 f1 f2 f3 y0 y1 y2 y3 g0 g1 g2 g3; have B := P.out.box (.head _); have z0 := B.cell 0; have z1 := B.cell 1; have z2 := B.cell 2; have z3 := B.cell 3; have f0 := B.frozen 0; have f1 := B.frozen 1; have f2 := B.frozen 2; have f3 := B.frozen 3; simp at z0 z1 z2 z3; dsimp only at f0 f1 f2 f3; clear B)
            have C := P.out.box (.tail _ (.head _)); have y0 := C.cell 0; have y1 := C.cell 1; have y2 := C.cell 2; have y3 := C.cell 3; have g0 := C.frozen 0; have g1 := C.frozen 1; have g2 := C.frozen 2; have g3 := C.frozen 3
            simp at y0 y1 y2 y3
            dsimp only at g0 g1 g2 g3
            clear C
            have PZ2 := Lib.hid (show PH (pkP w Np) ([], false) M5 [(Nr, 28, #[.int .i64 0, .slice none 0 0, .slice none 0 0, .slice none 0 0]), (Nx, 28, #[.int .i64 v, .slice A3 ks.length c3, .slice A4 ls.length c4, .slice A5 rs.length c5])] [] _ _ from (((P.out.bswap.set0 0 (.int .i64 0)).set0 1 (.slice none 0 0)).set0 2 (.slice none 0 0)).set0 3 (.slice none 0 0))
            go_wp2_with fail
            clear z0 z1 z2 z3 f0 f1 f2 f3 y0 y1 y2 y3 g0 g1 g2 g3
            generalize (((wv.setCell ⟨Nr, 0, none⟩ (.int .i64 0)).setCell ⟨Nr, 1, none⟩ (.slice none 0 0)).setCell ⟨Nr, 2, none⟩ (.slice none 0 0)).setCell ⟨Nr, 3, none⟩ (.slice none 0 0) = w9 at *
            have B := PZ2.out.box (.head _); have y0 := B.cell 0; have y1 := B.cell 1; have y2 := B.cell 2; have y3 := B.cell 3
            simp at y0 y1 y2 y3
            refine bodyPost_ret (v := .tuple #[.agg #[.int .i64 0, .slice none 0 0, .slice none 0 0, .slice none 0 0], .int .i64 0, .int .i64 4]) ?_ rfl ?_
            · simp [results, Tryz.results13, go_sem, y0, y1, y2, y3]
            · exact ⟨[.int .i64 0, .slice none 0 0, .slice none 0 0, .slice none 0 0], by rw [HQ.out], by rw [HQ.out]; exact noSch_rep _, PZ2.out.bl⟩
      · have HQ := Lib.hid (HP1.out (xs2 rfl))
        clear xs1 xs2 HP1 HP2 HP3 HP4 HP5 HP6 CS2
        go_wp2_with fail
        clear z0 z1 z2 z3 f0 f1 f2 f3 y0 y1 y2 y3 g0 g1 g2 g3 p0 p1
        have PZ2 := Lib.hid (PZ.out)
        generalize (((w8.setCell ⟨Nr, 0, none⟩ (.int .i64 0)).setCell ⟨Nr, 1, none⟩ (.slice none 0 0)).setCell ⟨Nr, 2, none⟩ (.slice none 0 0)).setCell ⟨Nr, 3, none⟩ (.slice none 0 0) = w9 at *
        have B := PZ2.out.box (.head _); have y0 := B.cell 0; have y1 := B.cell 1; have y2 := B.cell 2; have y3 := B.cell 3
        simp at y0 y1 y2 y3
        refine bodyPost_ret (v := .tuple #[.agg #[.int .i64 0, .slice none 0 0, .slice none 0 0, .slice none 0 0], .int .i64 (sat : Int), .int .i64 2]) ?_ rfl ?_
        · simp [results, Tryz.results13, go_sem, y0, y1, y2, y3]
        · exact ⟨[.int .i64 0, .slice none 0 0, .slice none 0 0, .slice none 0 0], by rw [HQ.out], by rw [HQ.out]; exact noSch_rep _, PZ2.out.bl⟩
end Go.Proofs.YtmplaikgbeeikaaGreatDoor
namespace Go.Proofs.YtmplaikgbeeikaaGreatDoor
open Go Go.RowKit
namespace Sx
/-- schema 1 kind a 0 9 key id 5 -/
def e1 : ByteArray := ⟨#[115, 99, 104, 101, 109, 97, 32, 49, 32, 107, 105, 110, 100, 32, 97, 32, 48, 32, 57, 32, 107, 101, 121, 32, 105, 100, 32, 53]⟩
def e2 : ByteArray := ⟨#[115, 99, 104, 101, 109, 97, 32, 49, 32, 107, 105, 110, 100, 32, 50]⟩
def e3 : ByteArray := ⟨#[115, 99, 104, 101, 109, 97, 32, 49, 32, 107, 105, 110, 100, 32, 97, 32, 48]⟩
def x1 : Sch := (1, [(⟨#[97]⟩, 0, 9, [(⟨#[105, 100]⟩, ⟨#[]⟩, ⟨#[]⟩, 0, 5, 0, [], [])])], [], [])
def p1 : Txt := [115, 99, 104, 101, 109, 97, 32, 49, 10, 107, 105, 110, 100, 32, 97, 32, 48, 32, 57, 10, 107, 101, 121, 32, 105, 100, 32, 53, 10]
theorem x1_src : source x1 = p1 := by kernel_rfl
theorem x1_valid : valid x1 = 0 := by
  unfold valid
  rw [x1_src]
  decide
theorem x1_print : print x1 = p1 := by
  unfold print
  rw [if_pos x1_valid, x1_src]
theorem e1_parse : parse e1.data.toList = (x1, 0, 0) := by
  have h1 : schema (toks e1.data.toList) = .ok x1 [] := by kernel_rfl
  have h2 : stopAt e1.data.toList = 28 := by kernel_rfl
  unfold parse
  rw [if_neg (by decide), h1]
  exact (if_neg (by rw [h2]; decide)).trans (if_pos x1_valid)
theorem e2_parse : parse e2.data.toList = (noSch, 14, 2) := by kernel_rfl
theorem e3_parse : parse e3.data.toList = (noSch, 17, 2) := by kernel_rfl
end Sx
end Go.Proofs.YtmplaikgbeeikaaGreatDoor
namespace Go.Proofs.YtmplaikgbeeikaaGreatDoor
open Go Go.RowKit
theorem valid_ok {x : Sch} (h : Sx.valid x = 0) : Sx.okB x = true := by
  unfold Sx.valid at h
  split at h
  · assumption
  · cases h
set_option maxRecDepth 100000 in
set_option maxHeartbeats 16000000 in
theorem print_any (x : Sch) (us : List Value) (w : World) (h : Mem.rep [] w x us) (hz : Sx.Sz x) (he : SEnv w) : Calls Tryz.prog 20 #[.agg us.toArray] w fun e w' => e = .returned (.string ⟨(Sx.print x).toArray⟩) ∧ Below w.heap.size w w' := by
  obtain ⟨A, c, B, d, C, e, rfl, s1, s2, s3, a1, b1, b2, b3, b4, b5, b6⟩ := rep_sch h
  obtain ⟨nk, hk⟩ : ∃ n, (Sc.kinds x).length = n := ⟨_, rfl⟩
  obtain ⟨nl, hl⟩ : ∃ n, x.2.2.1.length = n := ⟨_, rfl⟩
  obtain ⟨nr, hr⟩ : ∃ n, x.2.2.2.length = n := ⟨_, rfl⟩
  rw [hk, hl, hr] at h
  obtain ⟨N, hN⟩ : ∃ n, w.heap.size = n := ⟨_, rfl⟩
  obtain ⟨W0, hW0⟩ : ∃ X, w.alloc (.cells #[.int .i64 x.1, .slice A nk c, .slice B nl d, .slice C nr e] 28) = X := ⟨_, rfl⟩
  have hb0 : Below w.heap.size w W0 := by rw [← hW0]; exact (Below.refl w.heap.size w).alloc (Nat.le_refl _) _
  have hbk : Blk W0 N 28 #[.int .i64 x.1, .slice A nk c, .slice B nl d, .slice C nr e] := by rw [← hW0, ← hN]; exact Blk.new w _ _
  have T := Lib.hid (((held0 W0 [] (fun _ h => by cases h)).add (keeps_rep x _) (Mem.keep h (Chg.of_below hb0))).add (P := fun M W => N ∉ M ∧ Blk W N 28 #[.int .i64 x.1, .slice A nk c, .slice B nl d, .slice C nr e]) (keeps_blk _ _ _) ⟨by simp, hbk⟩)
  have CV := Lib.hid (fun (W : World) (hb : Below W0.heap.size W0 W) => show Calls Tryz.prog 21 #[.agg #[.int .i64 x.1, .slice A nk c, .slice B nl d, .slice C nr e]] W fun e w' => e = .returned (.int .i64 (Sx.valid x)) ∧ Below W.heap.size W w' from valid_any x _ W ((T.out.below hb).fact (.tail _ (.head _))) hz (he.to (hb0.trans (hb.mono hb0.size))))
  have CS := Lib.hid (fun (W : World) (hok : Sx.okB x = true) (hb : Below W0.heap.size W0 W) => show Calls Tryz.prog 51 #[.agg #[.int .i64 x.1, .slice A nk c, .slice B nl d, .slice C nr e]] W fun e w' => e = .returned (.string ⟨(Sx.source x).toArray⟩) ∧ Below W.heap.size W w' from source_any x _ W ((T.out.below hb).fact (.tail _ (.head _))) hok (he.to (hb0.trans (hb.mono hb0.size))))
  have HB := Lib.hid hb0
  have HW0 := Lib.hid hW0
  have HN := Lib.hid hN
  have hp : Sx.print x = if Sx.valid x = 0 then Sx.source x else [] := rfl
  have HOK := Lib.hid (valid_ok (x := x))
  obtain ⟨vv, hvv⟩ : ∃ z, Sx.valid x = z := ⟨_, rfl⟩
  rw [hvv] at CV hp HOK
  show Calls Tryz.prog 20 #[.agg #[.int .i64 x.1, .slice A (Sc.kinds x).length c, .slice B x.2.2.1.length d, .slice C x.2.2.2.length e]] w _
  rw [hk, hl, hr]
  by_cases h0 : vv = 0
  · rw [if_pos h0] at hp
    replace HOK := Lib.hid (HOK.out h0)
    subst h0
    rw [hp]
    clear h s1 s2 s3 a1 b1 b2 b3 b4 b5 b6 hk hl hr hbk hb0 hW0 hN he hz hvv hp
    have hbk := (T.out.fact (.head _)).2; have z0 := hbk.cell 0; have z1 := hbk.cell 1; have z2 := hbk.cell 2; have z3 := hbk.cell 3; simp at z0 z1 z2 z3; clear hbk
    go_enter Tryz.func20, Tryz.ntmps20
    go_upto_region 1 with fail
    rw [HW0.out, HN.out]
    go_wp2_with (first | (go_at_call 21; ((with_reducible refine (CV.out _ T.out.bl).mono ?_)); rintro e w2 ⟨rfl, hb2⟩; replace T := Lib.hid (T.out.below hb2); clear hb2 z0 z1 z2 z3; have hbk := (T.out.fact (.head _)).2; have z0 := hbk.cell 0; have z1 := hbk.cell 1; have z2 := hbk.cell 2; have z3 := hbk.cell 3; simp at z0 z1 z2 z3; clear hbk) | (go_at_call 51; ((with_reducible refine (CS.out _ HOK.out T.out.bl).mono ?_)); rintro e w2 ⟨rfl, hb2⟩; replace T := Lib.hid (T.out.below hb2); clear hb2 z0 z1 z2 z3))
    go_ret
    exact ⟨rfl, HB.out.trans (T.out.bl.mono HB.out.size)⟩
  · rw [if_neg h0] at hp
    rw [hp]
    have q1 : (vv == 0) = false := by simpa using h0
    have q2 : (vv != 0) = true := by simpa using h0
    clear h s1 s2 s3 a1 b1 b2 b3 b4 b5 b6 hk hl hr hbk hb0 hW0 hN he hz hvv hp h0
    have hbk := (T.out.fact (.head _)).2; have z0 := hbk.cell 0; have z1 := hbk.cell 1; have z2 := hbk.cell 2; have z3 := hbk.cell 3; simp at z0 z1 z2 z3; clear hbk
    go_enter Tryz.func20, Tryz.ntmps20
    go_upto_region 1 with fail
    rw [HW0.out, HN.out]
    go_wp2_with (go_at_call 21; ((with_reducible refine (CV.out _ T.out.bl).mono ?_)); rintro e w2 ⟨rfl, hb2⟩; replace T := Lib.hid (T.out.below hb2); clear hb2 z0 z1 z2 z3; have hbk := (T.out.fact (.head _)).2; have z0 := hbk.cell 0; have z1 := hbk.cell 1; have z2 := hbk.cell 2; have z3 := hbk.cell 3; simp at z0 z1 z2 z3; clear hbk)
    go_ret
    exact ⟨rfl, HB.out.trans (T.out.bl.mono HB.out.size)⟩
end Go.Proofs.YtmplaikgbeeikaaGreatDoor
