/- Parse: the reference's. -/
import Derived.Test.YtdpcdocaahjeoaaDoorW28
import Derived.Test.YtdpcdocaahjeoaaDoorBaseA
import Derived.Test.YtdpcdocaahjeoaaDoorVmGP
import Derived.WalkLawsBesides
namespace Go.Proofs.YtdpcdocaahjeoaaDoor
open Go Go.RowKit
theorem infoInt : (Tryd.prog.info? 3).map (fun i => (i.zero, i.size, i.bytes)) = some (some (.int .i64 0), 1, 8) := by kernel_rfl
theorem owns_cellg {w : World} {base size n c g : Nat} {e : TypeId} {xs : List Value} (h : w.ownsRow base e size (.slice (some ⟨g, 0, none⟩) n c) n xs) (j : Nat) (u : Value) (hu : xs[j]? = some u) : w.cell? ⟨g, j, none⟩ = some u := by
  have := h.cells (g := g) rfl j u hu
  rw [Addr.add_lit, Nat.zero_add] at this
  exact this
theorem getD_in2 {L : List Int} {k : Nat} (h : ∀ x ∈ L, inI x) (hk : k < L.length) : inI (L.getD k 0) := by
  rw [List.getD_eq_getElem?_getD, List.getElem?_eq_getElem hk]; exact h _ (List.getElem_mem hk)
theorem tk_at {G : List Nat} {w : World} {A : Option Addr} {toks : List Tk} (h : SlAt G w A (toks.map tokI)) (k : Nat) (hk : k < toks.length) : ∃ b o, A = some ⟨b, o, none⟩ ∧ b ∉ G ∧ w.cell? ⟨b, o + k * 2, none⟩ = some (.int .i64 (toks[k].1 : Int)) ∧ w.cell? ⟨b, o + k * 2 + 1, none⟩ = some (.int .i64 (toks[k].2 : Int)) := by
  obtain ⟨b, o, us, hA, hg, ⟨u1, t1, rfl, ⟨rfl, _⟩, ⟨rfl, _⟩⟩, hc⟩ := h.get k (by simpa using hk)
  refine ⟨b, o, hA, hg, ?_, ?_⟩
  · have := hc 0 _ rfl; rw [List.getElem_map] at this; exact this
  · have := hc 1 _ rfl; rw [List.getElem_map] at this; exact this
namespace Vm
theorem op_iff (t : List UInt8) (k : Nat) (hk : k < 9) : wordsL.getD k [] = t ↔ opOf t = some k := by
  constructor
  · rintro rfl
    match k, hk with
    | 0, _ | 1, _ | 2, _ | 3, _ | 4, _ | 5, _ | 6, _ | 7, _ | 8, _ => decide
  · intro h
    unfold opOf at h
    rw [List.findIdx?_eq_some_iff_getElem] at h
    obtain ⟨h1, h2, _⟩ := h
    rw [List.getD_eq_getElem?_getD, List.getElem?_eq_getElem h1]
    simpa using h2
theorem op_lt {t : List UInt8} {k : Nat} (h : opOf t = some k) : k < 9 := by
  unfold opOf at h
  rw [List.findIdx?_eq_some_iff_getElem] at h
  exact h.1
/-- The search's state behind k words. -/
def opTo (t : List UInt8) (k : Nat) : Int := match opOf t with
  | some o => if o < k then (o : Int) else -1
  | none => -1
theorem opTo_zero (t : List UInt8) : opTo t 0 = -1 := by unfold opTo; cases opOf t <;> simp
theorem opTo_yes {t : List UInt8} {k : Nat} (h : opOf t = some k) : opTo t (k + 1) = k := by unfold opTo; rw [h]; simp
theorem opTo_no {t : List UInt8} {k : Nat} (h : opOf t ≠ some k) : opTo t (k + 1) = opTo t k := by
  unfold opTo
  cases ho : opOf t with
  | none => rfl
  | some o =>
    have : o ≠ k := fun e => h (by rw [ho, e])
    by_cases hk : o < k
    · simp only [if_pos hk, if_pos (show o < k + 1 by omega)]
    · simp only [if_neg hk, if_neg (show ¬ o < k + 1 by omega)]
theorem opTo_nine {t : List UInt8} : opTo t 9 = match opOf t with | some o => (o : Int) | none => -1 := by
  unfold opTo
  cases ho : opOf t with
  | none => rfl
  | some o => have := op_lt ho; simp only [if_pos this]
theorem opTo_in (t : List UInt8) (k : Nat) : inI (opTo t k) := by
  unfold opTo inI
  cases ho : opOf t with
  | none => simp
  | some o => have := op_lt ho; dsimp only; split <;> omega
theorem sorts_str (o : Nat) (h : o < 9) : (sortS o).data.toList = (sorts3 o).map sortB := by
  match o, h with
  | 0, _ | 1, _ | 2, _ | 3, _ | 4, _ | 5, _ | 6, _ | 7, _ | 8, _ => rfl
theorem sorts_first (o : Nat) (h : o < 9) : sortOf (o : Int) 0 ≠ 0 := by
  match o, h with
  | 0, _ | 1, _ | 2, _ | 3, _ | 4, _ | 5, _ | 6, _ | 7, _ | 8, _ => decide
theorem piece_ext (s : ByteArray) (a e : Nat) : (s.extract a e).data.toList = piece s.data.toList a e := by
  rw [Lib.extract_data]; unfold piece; rw [List.drop_take]
theorem refL_nil (s : List UInt8) (en : Nat) (left : List Nat) (op : Nat) (nums : List Int) (acc : List Ins) : refL s en [] left op nums acc = if left ≠ [] ∨ en < s.length then ([], (en : Int), 2) else fin acc := by cases left <;> rfl
theorem refL_op (s : List UInt8) (en a e : Nat) (T : List (Nat × Nat)) (op : Nat) (nums : List Int) (acc : List Ins) : refL s en ((a, e) :: T) [] op nums acc = match opOf (piece s a e) with
    | none => ([], (a : Int), 2)
    | some op => if whole (sorts3 op) then refL s en T [] op [] (acc ++ [mkIns op []]) else refL s en T (sorts3 op) op [] acc := rfl
theorem refL_num (s : List UInt8) (en a e : Nat) (T : List (Nat × Nat)) (k : Nat) (ks : List Nat) (op : Nat) (nums : List Int) (acc : List Ins) : refL s en ((a, e) :: T) (k :: ks) op nums acc = match numOf (piece s a e) with
    | none => ([], (a : Int), 2)
    | some n => if whole ks then refL s en T [] op [] (acc ++ [mkIns op (nums ++ [n])]) else refL s en T ks op (nums ++ [n]) acc := rfl
end Vm
theorem sorts_all (o : Nat) : ∀ x ∈ Vm.sorts3 o, x < 7 := by
  intro x hx
  unfold Vm.sorts3 at hx
  simp only [List.mem_cons, List.not_mem_nil, or_false] at hx
  rcases hx with rfl | rfl | rfl <;> exact Vm.sortOf_lt _ _ (by omega)
theorem byte_eq {a b : ByteArray} (h : a.data.toList = b.data.toList) : a = b := by rw [str_eq h, ← str_eq rfl]
set_option maxRecDepth 100000 in
set_option maxHeartbeats 8000000 in
theorem rParse_any (s : ByteArray) (w : World) (hs : s.size ≤ 1000000) : Calls Tryd.prog 29 #[.string s] w (ParseP s.data.toList w) := by
  obtain ⟨n, hn⟩ : ∃ n, s.size = n := ⟨_, rfl⟩
  have hsn : s.size = n := hn
  obtain ⟨iR, hi, hz0, hz1, hz2⟩ := info_parts infoRIns
  have HRIN := Lib.hid (show _ ∧ _ ∧ _ ∧ _ from ⟨hi, hz0, hz1, hz2⟩)
  clear hi hz0 hz1 hz2
  obtain ⟨iI, hi, hz0, hz1, hz2⟩ := info_parts infoInt
  have HINT := Lib.hid (show _ ∧ _ ∧ _ ∧ _ from ⟨hi, hz0, hz1, hz2⟩)
  clear hi hz0 hz1 hz2
  by_cases hlong : 8192 < n
  · have HG := Lib.hid (show Vm.parse s.data.toList = ([], 8192, 4) by unfold Vm.parse; rw [Vm.strLn, if_pos (by omega)])
    have t1 : decide ((8192 : Int) < (n : Int)) = true := decide_eq_true (by omega)
    clear hn
    go_enter Tryd.func29, Tryd.ntmps29
    go_wp2_with fail
    go_ret3
    exact parseErr HG.out (Below.refl _ _)
  · have t1 : decide ((8192 : Int) < (n : Int)) = false := decide_eq_false (by omega)
    obtain ⟨toks, htoks⟩ : ∃ z, (Vm.scan s.data.toList (s.data.toList.length + 1) 0).1 = z := ⟨_, rfl⟩
    obtain ⟨en, hen⟩ : ∃ z, (Vm.scan s.data.toList (s.data.toList.length + 1) 0).2 = z := ⟨_, rfl⟩
    have hpar : Vm.refL s.data.toList en toks [] 0 [] [] = Vm.parse s.data.toList := by
      rw [Vm.parse_ref]; unfold Vm.refP; rw [Vm.strLn, if_neg (by omega), ← Vm.strLn, htoks, hen]
    have HPAR := Lib.hid hpar
    have CS := Lib.hid (scan_any s w hs)
    unfold ScanP at CS
    rw [htoks, hen, Vm.strLn, hn] at CS
    have CW := Lib.hid words_any
    have CSO := Lib.hid rSorts_any
    have T0 := Lib.hid (held0 w [] (fun _ h => by cases h))
    obtain ⟨nt, hnt⟩ : ∃ z, toks.length = z := ⟨_, rfl⟩
    have HNT := Lib.hid hnt
    rw [hnt] at CS
    clear hn hpar htoks hen hnt
    go_enter Tryd.func29, Tryd.ntmps29
    go_wp2_with (go_at_call 58; ((with_reducible refine (CS.out).mono ?_)); rintro e w1 ⟨A, c, rfl, hsl, hntn, hbd, hb⟩; replace T0 := Lib.hid ((T0.out.below hb).add (keeps_sl A (toks.map tokI)) hsl); have HBD := Lib.hid hbd; clear hb hsl hbd)
    have T := Lib.hid (HRow2.start (e1 := 58) (s1 := 4) (e2 := 3) (s2 := 1) T0.out)
    clear T0 CS
    go_loopg [7, 8, 9, 10, 11] nt (fun r v7 v8 v9 v10 v11 wr => ∃ (i : Nat) (ks : List Nat) (nums : List Int) (acc : List Vm.Ins) (op : Nat) (left : ByteArray) (M : List Nat), i + r = nt ∧ v11 = .int .i64 i ∧ v10 = .int .i64 (op : Int) ∧ v8 = .string left ∧ acc.length ≤ i ∧ nums.length ≤ 6 ∧ (ks ≠ [] → left.data.toList = ks.map Vm.sortB ∧ nums.length + ks.length = 3 ∧ ∀ x ∈ ks, x < 7) ∧ op < 9 ∧ (∀ x ∈ nums, inI x) ∧ AllIns acc ∧ (ks = [] → left = ⟨#[]⟩) ∧ Vm.refL s.data.toList en (toks.drop i) ks op nums acc = Vm.parse s.data.toList ∧ HRow2 w [] M [] [fun M W => SlAt M W A (toks.map tokI)] 58 4 v7 (acc).length (insVals (acc)) 3 1 v9 (nums).length (intVals (nums)) wr)
    case atStart => exact ⟨0, [], [], [], 0, ⟨#[]⟩, _, by omega, rfl, rfl, rfl, by simp, by simp, (fun h => absurd rfl h), by omega, (fun _ h => by cases h), (fun _ h => by cases h), (fun _ => rfl), HPAR.out, T.out⟩
    case round =>
      obtain ⟨i, ks, nums, acc, op, left, M, hk, rfl, rfl, rfl, hacl, hn6, hleft, hop, hin, hai, hle0, hrf, hH⟩ := hrel
      obtain ⟨wo, rfl⟩ : ∃ wo : World, wo = wr := ⟨_, rfl⟩
      obtain ⟨gq, rfl⟩ : ∃ g : Nat, g = gk := ⟨_, rfl⟩
      replace T := Lib.hid hH
      have HIN := Lib.hid hin; have HAI := Lib.hid hai
      clear hH hin hai
      by_cases hlt : i < nt
      · have hik : i < toks.length := by rw [HNT.out]; exact hlt
        have k0 : (0 : Int) ≤ (i : Int) := Int.natCast_nonneg _
        have k1 : (i : Int) < (nt : Int) := by omega
        obtain ⟨b, o, hA, _, c0, c1⟩ := tk_at (T.out.r1.h.fact (.head _)) i hik
        subst hA
        have hbi := HBD.out _ (List.getElem_mem hik)
        rw [List.drop_eq_getElem_cons hik] at hrf
        obtain ⟨tk, htk⟩ : ∃ z, toks[i] = z := ⟨_, rfl⟩
        rw [htk] at c0 c1 hbi hrf
        obtain ⟨a, e⟩ := tk
        dsimp only at c0 c1 hbi
        have j0 : (0 : Int) ≤ (a : Int) := Int.natCast_nonneg _
        have j1 : (a : Int) ≤ (e : Int) := by omega
        have j2 : (e : Int) ≤ (n : Int) := by omega
        obtain ⟨tt, htt⟩ : ∃ z, s.extract a e = z := ⟨_, rfl⟩
        have HTT := Lib.hid (show tt.data.toList = Vm.piece s.data.toList a e by rw [← htt]; exact Vm.piece_ext s a e)
        have hts : tt.size ≤ 1000000 := by rw [← htt, ByteArray.size_extract]; omega
        have HTKI := Lib.hid htk
        clear htk
        cases ks with
        | nil =>
          obtain rfl := hle0 rfl
          rw [Vm.refL_op, ← HTT.out] at hrf
          have HRF := Lib.hid hrf
          clear hrf hleft hle0
          go_wp2_with fail
          go_quiet (fail)
          replace T := Lib.hid (T.out.drewN nq)
          go_wp2_with fail
          obtain ⟨tl, htl⟩ : ∃ z, tt.data.toList = z := ⟨_, rfl⟩
          rw [htl] at HRF
          have HTL := Lib.hid htl
          clear htl c0 c1
          go_loopg [10, 13] 9 (fun r v10 v13 wr2 => ∃ k : Nat, k + r = 9 ∧ v13 = .int .i64 k ∧ v10 = .int .i64 (Vm.opTo tl k) ∧ HRow2 w [] M [] [fun M W => SlAt M W (some ⟨b, o, none⟩) (toks.map tokI)] 58 4 u7 (acc).length (insVals (acc)) 3 1 u9 (nums).length (intVals (nums)) wr2)
          case atStart => exact ⟨0, by omega, rfl, by rw [Vm.opTo_zero], T.out⟩
          case round =>
            obtain ⟨k, hk9, rfl, rfl, hHH⟩ := hrel
            replace T := Lib.hid hHH
            clear hHH
            obtain ⟨wi, rfl⟩ : ∃ wo : World, wo = wr := ⟨_, rfl⟩
            by_cases hkk : k < 9
            · have q0 : (0 : Int) ≤ (k : Int) := Int.natCast_nonneg _
              have q1 : (k : Int) < 9 := by omega
              have hyes := fun h => Vm.opTo_yes (t := tl) (k := k) h
              have hno := fun h => Vm.opTo_no (t := tl) (k := k) h
              have hiff := Vm.op_iff tl k hkk
              rw [← wordS_list] at hiff
              obtain ⟨ov, hov⟩ : ∃ z, Vm.opTo tl k = z := ⟨_, rfl⟩
              rw [hov] at hno ⊢
              have HCW := Lib.hid (wstr_get k hkk)
              obtain ⟨ws, hws⟩ : ∃ z, wordS k = z := ⟨_, rfl⟩
              rw [hws] at HCW hiff
              clear hov hws
              by_cases hw : ws = tt
              · have HO := Lib.hid (hyes (hiff.1 (by rw [hw]; exact HTL.out)))
                subst hw
                clear hyes hno hiff
                go_wp2_with (go_at_call 51; ((with_reducible refine (CW.out _).mono ?_)); rintro e w3 ⟨g, rfl, hg, hB, hb3⟩; replace T := Lib.hid (T.out.below hb3); have cc := (hB.cell k).trans HCW.out; clear hg hB hb3)
                go_roundg (gk - 1)
                case measure => omega
                case rel => exact ⟨k + 1, by omega, by go_num, by rw [HO.out], T.out⟩
              · have HO := Lib.hid (hno (fun h => hw (byte_eq (by rw [HTL.out]; exact hiff.2 h))))
                have z3 := strEq_false hw
                clear hyes hno hiff hw
                go_wp2_with (go_at_call 51; ((with_reducible refine (CW.out _).mono ?_)); rintro e w3 ⟨g, rfl, hg, hB, hb3⟩; replace T := Lib.hid (T.out.below hb3); have cc := (hB.cell k).trans HCW.out; clear hg hB hb3)
                go_roundg (gk - 1)
                case measure => omega
                case rel => exact ⟨k + 1, by omega, by go_num, by rw [HO.out], T.out⟩
            · obtain rfl : k = 9 := by omega
              rw [show ((9 : Nat) : Int) = 9 from rfl]
              rw [Vm.opTo_nine]
              obtain ⟨b', o', hA', _, c0, c1⟩ := tk_at (T.out.r1.h.fact (.head _)) i hik; obtain ⟨rfl, rfl⟩ := addr_inj hA'; rw [HTKI.out] at c0 c1; dsimp only at c0 c1; clear hA'
              cases ho : Vm.opOf tl with
              | none =>
                have HG := Lib.hid (show Vm.parse s.data.toList = ([], (a : Int), 2) by rw [← HRF.out, ho])
                dsimp only
                clear ho
                go_wp2_with fail
                go_quiet (fail)
                replace T := Lib.hid (T.out.drewN nq)
                go_wp2_with fail
                go_ret3
                exact parseErr HG.out T.out.r1.h.bl
              | some oo =>
                have hoo := Vm.op_lt ho
                have hwh : Vm.whole (Vm.sorts3 oo) = false := by have := Vm.sorts_first oo hoo; unfold Vm.sorts3 Vm.whole; simpa using this
                have HRF1 := Lib.hid (show Vm.refL s.data.toList en (toks.drop (i + 1)) (Vm.sorts3 oo) oo [] acc = Vm.parse s.data.toList by rw [← HRF.out, ho]; dsimp only; rw [hwh]; rfl)
                have hs3 := sortS_size oo hoo
                have hsb := (sortS_byte oo hoo _ rfl hs3).1
                have HLS := Lib.hid (Vm.sorts_str oo hoo)
                have HSC := Lib.hid (sstr_get oo hoo)
                have hfst := Vm.sorts_first oo hoo
                obtain ⟨ls, hls⟩ : ∃ z, sortS oo = z := ⟨_, rfl⟩
                have h0s : 0 < ls.size := by rw [← hls, hs3]; decide
                have t6 : (((ls[0]'h0s).toNat : Int) == 45) = false := by
                  have : ls[0]'h0s = Vm.sortB (Vm.sortOf (oo : Int) 0) := by subst hls; exact hsb
                  rw [this]
                  have := sortB_ne hfst (Vm.sortOf_lt _ _ (by omega))
                  rw [bne_iff_ne] at this
                  rw [beq_eq_false_iff_ne]; exact this
                rw [hls] at HLS HSC hs3
                have hlne : ls.data.toList ≠ [] := fun h => by have := congrArg List.length h; rw [Vm.strLn, hs3] at this; cases this
                have z1 : ls.toList.isEmpty = false := by rw [ByteArray.toList_eq]; cases hh : ls.data.toList with | nil => exact absurd hh hlne | cons _ _ => rfl
                have z2 : ls.data.toList.isEmpty = false := by cases hh : ls.data.toList with | nil => exact absurd hh hlne | cons _ _ => rfl
                have q0 : (0 : Int) ≤ (oo : Int) := Int.natCast_nonneg _
                have q1 : (oo : Int) < 9 := by omega
                have q2 : decide ((oo : Int) < 0) = false := decide_eq_false (by omega)
                have hmin : min (0 : Int) 3 = 0 := rfl
                have htn : (0 : Int).toNat = 0 := rfl
                dsimp only
                clear ho hwh hsb hfst hlne hls
                go_wp2_with (go_at_call 38; ((with_reducible refine (CSO.out _).mono ?_)); rintro e w3 ⟨g, rfl, hg, hB, hb3⟩; replace T := Lib.hid (T.out.below hb3); have cc := (hB.cell oo).trans HSC.out; clear hg hB hb3)
                replace T := Lib.hid (HRow2.reset (e2 := 3) (s2 := 1) T.out.r1)
                clear cc
                go_roundg (gq - 1)
                case measure => omega
                case rel => exact ⟨i + 1, Vm.sorts3 oo, [], acc, oo, ls, _, by omega, by go_num, rfl, rfl, by omega, by simp, (fun _ => ⟨HLS.out, rfl, sorts_all oo⟩), hoo, (fun _ h => by cases h), HAI.out, (fun h => by cases h), HRF1.out, T.out⟩
        | cons k ks =>
          obtain ⟨hld, hl3, hlt7⟩ := hleft (by simp)
          rw [List.length_cons] at hl3
          rw [Vm.refL_num, ← HTT.out] at hrf
          have HRF := Lib.hid hrf
          have CNU := Lib.hid (fun W => rNumber_any tt W hts)
          unfold NumP at CNU
          obtain ⟨nr, hnr⟩ : ∃ z, numR tt.data.toList = z := ⟨_, rfl⟩
          have hlne : left.data.toList ≠ [] := by rw [hld]; simp
          have z1 : left.toList.isEmpty = false := by rw [ByteArray.toList_eq]; cases hh : left.data.toList with | nil => exact absurd hh hlne | cons _ _ => rfl
          have z2 : left.data.toList.isEmpty = false := by cases hh : left.data.toList with | nil => exact absurd hh hlne | cons _ _ => rfl
          clear hrf hleft hle0 hlne
          cases hnum : Vm.numOk tt.data.toList
          · have HG := Lib.hid (show Vm.parse s.data.toList = ([], (a : Int), 2) by rw [← HRF.out, Vm.numOf_none hnum])
            rw [hnum, hnr] at CNU
            clear hnum hnr hld
            go_wp2_with fail
            go_quiet (fail)
            replace T := Lib.hid (T.out.drewN nq)
            clear c0 c1
            go_wp2_with (go_at_call 63; ((with_reducible refine (CNU.out _).mono ?_)); rintro e w3 ⟨rfl, hb3⟩; replace T := Lib.hid (T.out.below hb3); clear hb3)
            obtain ⟨b', o', hA', _, c0, c1⟩ := tk_at (T.out.r1.h.fact (.head _)) i hik; obtain ⟨rfl, rfl⟩ := addr_inj hA'; rw [HTKI.out] at c0 c1; dsimp only at c0 c1; clear hA'
            go_quiet (fail)
            replace T := Lib.hid (T.out.drewN nq)
            go_wp2_with fail
            go_ret3
            exact parseErr HG.out T.out.r1.h.bl
          · have hnv : numR tt.data.toList = Vm.numV tt.data.toList := by unfold numR; rw [hnum]; rfl
            have hnrin : inI nr := by rw [← hnr, hnv]; exact Vm.numV_in hnum
            have hnumof : Vm.numOf tt.data.toList = some nr := by rw [Vm.numOf_some hnum, ← hnv, hnr]
            rw [hnum, hnr] at CNU
            obtain ⟨nums1, hn1⟩ : ∃ z, nums ++ [nr] = z := ⟨_, rfl⟩
            have HNE := Lib.hid hn1
            have HN1 := Lib.hid (show intVals nums ++ [.int .i64 nr] = intVals nums1 by rw [← hn1, intVals_append]; rfl)
            have hn1l : nums1.length = nums.length + 1 := by rw [← hn1, List.length_append]; rfl
            have HNL1 := Lib.hid hn1l.symm
            have hn3 : nums1.length ≤ 3 := by omega
            replace HIN := Lib.hid (show ∀ x ∈ nums1, inI x from fun x hx => by
              rw [← hn1] at hx
              rcases List.mem_append.1 hx with h | h
              · exact HIN.out x h
              · rw [List.mem_singleton.1 h]; exact hnrin)
            clear hnum hnr hnv hn1
            go_wp2_with fail
            go_quiet (fail)
            replace T := Lib.hid (T.out.drewN nq)
            clear c0 c1
            cases ks with
            | nil =>
              have hwl : left.data.toList.length = 1 := by rw [hld]; rfl
              have HRF1 := Lib.hid (show Vm.refL s.data.toList en (toks.drop (i + 1)) [] op [] (acc ++ [Vm.mkIns op nums1]) = Vm.parse s.data.toList by rw [← HRF.out, hnumof]; dsimp only; rw [← HNE.out]; rfl)
              have hl2 : left.extract 1 left.size = ⟨#[]⟩ := str_eq (l := []) (by rw [Lib.extract_to_end, hld]; rfl)
              have hls : (1 : Int) ≤ (left.size : Int) := by rw [Vm.strLn] at hwl; omega
              have hls2 : 1 ≤ left.size := by rw [Vm.strLn] at hwl; omega
              clear hld hwl hnumof
              go_upto_region 28 with (first | (go_at_call 63; ((with_reducible refine (CNU.out _).mono ?_)); rintro e w3 ⟨rfl, hb3⟩; replace T := Lib.hid (T.out.below hb3); clear hb3) | (at_builtin; obtain ⟨hi, hz0, hz1, hz2⟩ := HINT.out; refine wpList_append_row2 (by rfl) _ _ 22 (by rfl) iI _ 8 Tryd.underlying22 hi hz0 hz1 hz2 rfl (by decide) (T.out.swap.below ((Below.refl _ _).alloc (Nat.le_refl _) _)) (by decide) (by rfl) _ _ 1 1 [.int .i64 nr] (by rfl) (reads_blk (Blk.new _ _ _) rfl) (intVals_one [nr]) (by unfold maxLen; omega) (by omega) ?_; intro v5 w5 M5 h5 _; rw [HN1.out, HNL1.out] at h5; replace T := Lib.hid h5.swap; clear h5 hi hz0 hz1 hz2))
              obtain ⟨Lz, hLz⟩ : ∃ z, nums1 ++ [0, 0, 0] = z := ⟨_, rfl⟩
              have HLZ := Lib.hid (show intVals nums1 ++ [.int .i64 0, .int .i64 0, .int .i64 0] = intVals Lz by rw [← hLz, intVals_append]; rfl)
              have hLl : Lz.length = nums1.length + 3 := by rw [← hLz, List.length_append]; rfl
              obtain ⟨nl, hnl⟩ : ∃ z, nums1.length = z := ⟨_, rfl⟩
              rw [hnl] at T hLl hn3
              obtain ⟨nn, hnn⟩ : ∃ z, nl + 3 = z := ⟨_, rfl⟩
              have HNN := Lib.hid hnn
              have hnn3 : 3 ≤ nn ∧ nn ≤ 6 := by omega
              rw [hnn] at hLl
              have HLL := Lib.hid hLl
              have HIL := Lib.hid (show ∀ x ∈ Lz, inI x from fun x hx => by
                rw [← hLz] at hx
                rcases List.mem_append.1 hx with h | h
                · exact HIN.out x h
                · simp only [List.mem_cons, List.not_mem_nil, or_false] at h; unfold inI; rcases h with rfl | rfl | rfl <;> omega)
              have HMK := Lib.hid (show Vm.mkIns op nums1 = Vm.mkIns op Lz by rw [← hLz]; exact (Vm.mkIns_pad op nums1 3).symm)
              clear hLz hnl hnn
              go_upto_region 30 with (at_builtin; obtain ⟨hi, hz0, hz1, hz2⟩ := HINT.out; refine wpList_append_row2 (by rfl) _ _ 22 (by rfl) iI _ 8 Tryd.underlying22 hi hz0 hz1 hz2 rfl (by decide) (T.out.swap.below ((Below.refl _ _).alloc (Nat.le_refl _) _)) (by decide) (by rfl) _ _ 3 3 [.int .i64 0, .int .i64 0, .int .i64 0] (by rfl) (reads_blk (Blk.new _ _ _) rfl) (intVals_one [0, 0, 0]) (by unfold maxLen; omega) (by omega) ?_; intro v5 w5 M5 h5 _; rw [HLZ.out] at h5; obtain ⟨A5, c5, rfl⟩ := own_form h5.r1.own; rw [HNN.out] at h5; replace T := Lib.hid h5.swap; clear h5 hi hz0 hz1 hz2)
              obtain ⟨g5, rfl, hcc⟩ := owns_cell T.out.o2 (by omega)
              clear hcc
              rw [HNN.out]
              obtain ⟨N0, hN0⟩ : ∃ z, Lz.getD 0 0 = z := ⟨_, rfl⟩
              obtain ⟨N1, hN1⟩ : ∃ z, Lz.getD 1 0 = z := ⟨_, rfl⟩
              obtain ⟨N2, hN2⟩ : ∃ z, Lz.getD 2 0 = z := ⟨_, rfl⟩
              have HG0 := Lib.hid (show (intVals Lz)[0]? = some (.int .i64 N0) by rw [← hN0]; exact intVals_get (by omega))
              have HG1 := Lib.hid (show (intVals Lz)[1]? = some (.int .i64 N1) by rw [← hN1]; exact intVals_get (by omega))
              have HG2 := Lib.hid (show (intVals Lz)[2]? = some (.int .i64 N2) by rw [← hN2]; exact intVals_get (by omega))
              have HMI := Lib.hid (show Vm.mkIns op nums1 = ((op : Int), N0, N1, N2) by rw [HMK.out, ← hN0, ← hN1, ← hN2]; rfl)
              have HAI2 := Lib.hid (show AllIns (acc ++ [((op : Int), N0, N1, N2)]) from fun x hx => by
                rcases List.mem_append.1 hx with h | h
                · exact HAI.out x h
                · rw [List.mem_singleton.1 h]; exact ⟨by show inI (op : Int); unfold inI; omega, by show inI N0; rw [← hN0]; exact getD_in2 HIL.out (by omega), by show inI N1; rw [← hN1]; exact getD_in2 HIL.out (by omega), by show inI N2; rw [← hN2]; exact getD_in2 HIL.out (by omega)⟩)
              have HVS := Lib.hid (insVals_snoc acc ((op : Int), N0, N1, N2))
              obtain ⟨na, hna⟩ : ∃ z, acc.length = z := ⟨_, rfl⟩
              have HNA := Lib.hid (show (acc ++ [((op : Int), N0, N1, N2)]).length = na + 1 by rw [List.length_append, hna]; rfl)
              rw [hna] at T hacl
              have j0 : (0 : Int) < (nn : Int) := by omega
              have j1 : (1 : Int) < (nn : Int) := by omega
              have j2 : (2 : Int) < (nn : Int) := by omega
              clear hN0 hN1 hN2 hna
              apply wp_region_typed (C := fun w' => HRow2 w [] _ [] [fun M W => SlAt M W (some ⟨b, o, none⟩) (toks.map tokI)] 58 4 u7 na (insVals acc) 3 1 (.slice (some ⟨g5, 0, none⟩) nn c5) nn (intVals Lz) w') (n := 127) (m := 13) (l1 := [_, _, _, _, _, _, _, _, _, _, _, _, _]) (l2 := [_, _])
              · rfl
              · rfl
              · kernel_rfl
              · rfl
              · kernel_rfl
              · exact T.out.drew
              · exact fun u u' h hb => (by first | exact h.below hb | exact h.trans (hb.mono h.size))
              iterate 11 ((apply wpT_exact; · (intro w' hC hf; unfold Gives; have m0 := owns_cellg hC.o2 0 _ HG0.out; have m1 := owns_cellg hC.o2 1 _ HG1.out; have m2 := owns_cellg hC.o2 2 _ HG2.out; clear hf hC; go_wp2_with (fail); apply postT_val rfl (Below.refl _ _); simp only [valAt, Array.getD_eq_getD_getElem?, List.getElem?_toArray, List.getElem?_cons_succ, List.getElem?_cons_zero, Option.getD_some]; exact rfl)); (try simp only [Act.put, List.setIfInBounds_toArray, List.set_cons_zero, List.set_cons_succ]))
              (apply wpT_exact; · (intro w' hC hf; unfold Gives; clear hf hC; go_wp2_with (fail); apply postT_val rfl (Below.refl _ _); simp only [valAt, Array.getD_eq_getD_getElem?, List.getElem?_toArray, List.getElem?_cons_succ, List.getElem?_cons_zero, Option.getD_some]; exact rfl)); (try simp only [Act.put, List.setIfInBounds_toArray, List.set_cons_zero, List.set_cons_succ])
              apply wpT_typed (slBlk_kept 1 58 #[.int .i64 (op : Int), .int .i64 N0, .int .i64 N1, .int .i64 N2])
              · intro w' hC hf; unfold Gives; clear hf hC; go_wp2_with fail; apply postT_mk rfl (by go_grown); simp only [valAt, Array.getD_eq_getD_getElem?, List.getElem?_toArray, List.getElem?_cons_succ, List.getElem?_cons_zero, Option.getD_some]; exact ⟨_, rfl, Blk.new _ _ _⟩
              intro vsl; (try simp only [Act.put, List.setIfInBounds_toArray, List.set_cons_zero, List.set_cons_succ])
              apply wpT_done
              intro w6 hC hall
              obtain ⟨gb, rfl, hB⟩ := hall.1
              obtain ⟨hi, hz0, hz1, hz2⟩ := HRIN.out
              refine wpList_append_row2 (by rfl) _ _ 32 (by rfl) iR _ 32 Tryd.underlying32 hi hz0 hz1 hz2 rfl (by decide) hC (by decide) (by rfl) _ _ 1 1 (insCells ((op : Int), N0, N1, N2)) (by rfl) (reads_blk hB rfl) (insCells_one _) (by unfold maxLen; omega) (by omega) ?_
              intro v7' w7 M7 h7 _
              rw [← HVS.out, ← HNA.out] at h7
              have HRF2 := Lib.hid (show Vm.refL s.data.toList en (toks.drop (i + 1)) [] op Lz (acc ++ [((op : Int), N0, N1, N2)]) = Vm.parse s.data.toList by rw [← HMI.out, Vm.refL_idle _ _ _ op op Lz [] _]; exact HRF1.out)
              replace T := Lib.hid h7
              clear h7 hB hC hall hi hz0 hz1 hz2
              go_wp2_with fail
              go_roundg (gq - 1)
              case measure => omega
              case rel => exact ⟨i + 1, [], Lz, acc ++ [((op : Int), N0, N1, N2)], op, ⟨#[]⟩, _, by omega, by go_num, rfl, rfl, by rw [HNA.out]; omega, by rw [HLL.out]; omega, (fun h => absurd rfl h), hop, HIL.out, HAI2.out, (fun _ => rfl), HRF2.out, by rw [HLL.out]; exact T.out⟩
            | cons k1 ks2 =>
              have hwl : left.data.toList.length = ks2.length + 2 := by rw [hld]; simp
              obtain ⟨left2, hl2⟩ : ∃ z, left.extract 1 left.size = z := ⟨_, rfl⟩
              have hl2d : left2.data.toList = (k1 :: ks2).map Vm.sortB := by rw [← hl2, Lib.extract_to_end, hld]; rfl
              have hlne2 : left2.data.toList ≠ [] := by rw [hl2d]; simp
              have z3 : left2.toList.isEmpty = false := by rw [ByteArray.toList_eq]; cases hh : left2.data.toList with | nil => exact absurd hh hlne2 | cons _ _ => rfl
              have z4 : left2.data.toList.isEmpty = false := by cases hh : left2.data.toList with | nil => exact absurd hh hlne2 | cons _ _ => rfl
              have h0s : 0 < left2.size := by rw [← Vm.strLn, hl2d]; simp
              have hfst : left2[0]'h0s = Vm.sortB k1 := by
                have h2 : 0 < left2.data.toList.length := by rw [Vm.strLn]; exact h0s
                rw [← Vm.str_get left2 0 h0s h2]
                simp only [hl2d]; rfl
              have hmin : min (0 : Int) (left2.size : Int) = 0 := by omega
              have htn : (0 : Int).toNat = 0 := rfl
              have hls : (1 : Int) ≤ (left.size : Int) := by rw [Vm.strLn] at hwl; omega
              have hls2 : 1 ≤ left.size := by rw [Vm.strLn] at hwl; omega
              by_cases hk1 : k1 = 0
              · have t6 : (((left2[0]'h0s).toNat : Int) == 45) = true := by rw [hfst, hk1]; rfl
                have HRF1 := Lib.hid (show Vm.refL s.data.toList en (toks.drop (i + 1)) [] op [] (acc ++ [Vm.mkIns op nums1]) = Vm.parse s.data.toList by rw [← HRF.out, hnumof]; dsimp only; rw [HNE.out]; unfold Vm.whole; rw [hk1]; rfl)
                clear hld hwl hnumof hfst hl2d hlne2 hk1
                go_upto_region 28 with (first | (go_at_call 63; ((with_reducible refine (CNU.out _).mono ?_)); rintro e w3 ⟨rfl, hb3⟩; replace T := Lib.hid (T.out.below hb3); clear hb3) | (at_builtin; obtain ⟨hi, hz0, hz1, hz2⟩ := HINT.out; refine wpList_append_row2 (by rfl) _ _ 22 (by rfl) iI _ 8 Tryd.underlying22 hi hz0 hz1 hz2 rfl (by decide) (T.out.swap.below ((Below.refl _ _).alloc (Nat.le_refl _) _)) (by decide) (by rfl) _ _ 1 1 [.int .i64 nr] (by rfl) (reads_blk (Blk.new _ _ _) rfl) (intVals_one [nr]) (by unfold maxLen; omega) (by omega) ?_; intro v5 w5 M5 h5 _; rw [HN1.out, HNL1.out] at h5; replace T := Lib.hid h5.swap; clear h5 hi hz0 hz1 hz2))
                obtain ⟨Lz, hLz⟩ : ∃ z, nums1 ++ [0, 0, 0] = z := ⟨_, rfl⟩
                have HLZ := Lib.hid (show intVals nums1 ++ [.int .i64 0, .int .i64 0, .int .i64 0] = intVals Lz by rw [← hLz, intVals_append]; rfl)
                have hLl : Lz.length = nums1.length + 3 := by rw [← hLz, List.length_append]; rfl
                obtain ⟨nl, hnl⟩ : ∃ z, nums1.length = z := ⟨_, rfl⟩
                rw [hnl] at T hLl hn3
                obtain ⟨nn, hnn⟩ : ∃ z, nl + 3 = z := ⟨_, rfl⟩
                have HNN := Lib.hid hnn
                have hnn3 : 3 ≤ nn ∧ nn ≤ 6 := by omega
                rw [hnn] at hLl
                have HLL := Lib.hid hLl
                have HIL := Lib.hid (show ∀ x ∈ Lz, inI x from fun x hx => by
                  rw [← hLz] at hx
                  rcases List.mem_append.1 hx with h | h
                  · exact HIN.out x h
                  · simp only [List.mem_cons, List.not_mem_nil, or_false] at h; unfold inI; rcases h with rfl | rfl | rfl <;> omega)
                have HMK := Lib.hid (show Vm.mkIns op nums1 = Vm.mkIns op Lz by rw [← hLz]; exact (Vm.mkIns_pad op nums1 3).symm)
                clear hLz hnl hnn
                go_upto_region 30 with (at_builtin; obtain ⟨hi, hz0, hz1, hz2⟩ := HINT.out; refine wpList_append_row2 (by rfl) _ _ 22 (by rfl) iI _ 8 Tryd.underlying22 hi hz0 hz1 hz2 rfl (by decide) (T.out.swap.below ((Below.refl _ _).alloc (Nat.le_refl _) _)) (by decide) (by rfl) _ _ 3 3 [.int .i64 0, .int .i64 0, .int .i64 0] (by rfl) (reads_blk (Blk.new _ _ _) rfl) (intVals_one [0, 0, 0]) (by unfold maxLen; omega) (by omega) ?_; intro v5 w5 M5 h5 _; rw [HLZ.out] at h5; obtain ⟨A5, c5, rfl⟩ := own_form h5.r1.own; rw [HNN.out] at h5; replace T := Lib.hid h5.swap; clear h5 hi hz0 hz1 hz2)
                obtain ⟨g5, rfl, hcc⟩ := owns_cell T.out.o2 (by omega)
                clear hcc
                rw [HNN.out]
                obtain ⟨N0, hN0⟩ : ∃ z, Lz.getD 0 0 = z := ⟨_, rfl⟩
                obtain ⟨N1, hN1⟩ : ∃ z, Lz.getD 1 0 = z := ⟨_, rfl⟩
                obtain ⟨N2, hN2⟩ : ∃ z, Lz.getD 2 0 = z := ⟨_, rfl⟩
                have HG0 := Lib.hid (show (intVals Lz)[0]? = some (.int .i64 N0) by rw [← hN0]; exact intVals_get (by omega))
                have HG1 := Lib.hid (show (intVals Lz)[1]? = some (.int .i64 N1) by rw [← hN1]; exact intVals_get (by omega))
                have HG2 := Lib.hid (show (intVals Lz)[2]? = some (.int .i64 N2) by rw [← hN2]; exact intVals_get (by omega))
                have HMI := Lib.hid (show Vm.mkIns op nums1 = ((op : Int), N0, N1, N2) by rw [HMK.out, ← hN0, ← hN1, ← hN2]; rfl)
                have HAI2 := Lib.hid (show AllIns (acc ++ [((op : Int), N0, N1, N2)]) from fun x hx => by
                  rcases List.mem_append.1 hx with h | h
                  · exact HAI.out x h
                  · rw [List.mem_singleton.1 h]; exact ⟨by show inI (op : Int); unfold inI; omega, by show inI N0; rw [← hN0]; exact getD_in2 HIL.out (by omega), by show inI N1; rw [← hN1]; exact getD_in2 HIL.out (by omega), by show inI N2; rw [← hN2]; exact getD_in2 HIL.out (by omega)⟩)
                have HVS := Lib.hid (insVals_snoc acc ((op : Int), N0, N1, N2))
                obtain ⟨na, hna⟩ : ∃ z, acc.length = z := ⟨_, rfl⟩
                have HNA := Lib.hid (show (acc ++ [((op : Int), N0, N1, N2)]).length = na + 1 by rw [List.length_append, hna]; rfl)
                rw [hna] at T hacl
                have j0 : (0 : Int) < (nn : Int) := by omega
                have j1 : (1 : Int) < (nn : Int) := by omega
                have j2 : (2 : Int) < (nn : Int) := by omega
                clear hN0 hN1 hN2 hna
                apply wp_region_typed (C := fun w' => HRow2 w [] _ [] [fun M W => SlAt M W (some ⟨b, o, none⟩) (toks.map tokI)] 58 4 u7 na (insVals acc) 3 1 (.slice (some ⟨g5, 0, none⟩) nn c5) nn (intVals Lz) w') (n := 127) (m := 13) (l1 := [_, _, _, _, _, _, _, _, _, _, _, _, _]) (l2 := [_, _])
                · rfl
                · rfl
                · kernel_rfl
                · rfl
                · kernel_rfl
                · exact T.out.drew
                · exact fun u u' h hb => (by first | exact h.below hb | exact h.trans (hb.mono h.size))
                iterate 11 ((apply wpT_exact; · (intro w' hC hf; unfold Gives; have m0 := owns_cellg hC.o2 0 _ HG0.out; have m1 := owns_cellg hC.o2 1 _ HG1.out; have m2 := owns_cellg hC.o2 2 _ HG2.out; clear hf hC; go_wp2_with (fail); apply postT_val rfl (Below.refl _ _); simp only [valAt, Array.getD_eq_getD_getElem?, List.getElem?_toArray, List.getElem?_cons_succ, List.getElem?_cons_zero, Option.getD_some]; exact rfl)); (try simp only [Act.put, List.setIfInBounds_toArray, List.set_cons_zero, List.set_cons_succ]))
                (apply wpT_exact; · (intro w' hC hf; unfold Gives; clear hf hC; go_wp2_with (fail); apply postT_val rfl (Below.refl _ _); simp only [valAt, Array.getD_eq_getD_getElem?, List.getElem?_toArray, List.getElem?_cons_succ, List.getElem?_cons_zero, Option.getD_some]; exact rfl)); (try simp only [Act.put, List.setIfInBounds_toArray, List.set_cons_zero, List.set_cons_succ])
                apply wpT_typed (slBlk_kept 1 58 #[.int .i64 (op : Int), .int .i64 N0, .int .i64 N1, .int .i64 N2])
                · intro w' hC hf; unfold Gives; clear hf hC; go_wp2_with fail; apply postT_mk rfl (by go_grown); simp only [valAt, Array.getD_eq_getD_getElem?, List.getElem?_toArray, List.getElem?_cons_succ, List.getElem?_cons_zero, Option.getD_some]; exact ⟨_, rfl, Blk.new _ _ _⟩
                intro vsl; (try simp only [Act.put, List.setIfInBounds_toArray, List.set_cons_zero, List.set_cons_succ])
                apply wpT_done
                intro w6 hC hall
                obtain ⟨gb, rfl, hB⟩ := hall.1
                obtain ⟨hi, hz0, hz1, hz2⟩ := HRIN.out
                refine wpList_append_row2 (by rfl) _ _ 32 (by rfl) iR _ 32 Tryd.underlying32 hi hz0 hz1 hz2 rfl (by decide) hC (by decide) (by rfl) _ _ 1 1 (insCells ((op : Int), N0, N1, N2)) (by rfl) (reads_blk hB rfl) (insCells_one _) (by unfold maxLen; omega) (by omega) ?_
                intro v7' w7 M7 h7 _
                rw [← HVS.out, ← HNA.out] at h7
                have HRF2 := Lib.hid (show Vm.refL s.data.toList en (toks.drop (i + 1)) [] op Lz (acc ++ [((op : Int), N0, N1, N2)]) = Vm.parse s.data.toList by rw [← HMI.out, Vm.refL_idle _ _ _ op op Lz [] _]; exact HRF1.out)
                replace T := Lib.hid h7
                clear h7 hB hC hall hi hz0 hz1 hz2
                go_wp2_with fail
                go_roundg (gq - 1)
                case measure => omega
                case rel => exact ⟨i + 1, [], Lz, acc ++ [((op : Int), N0, N1, N2)], op, ⟨#[]⟩, _, by omega, by go_num, rfl, rfl, by rw [HNA.out]; omega, by rw [HLL.out]; omega, (fun h => absurd rfl h), hop, HIL.out, HAI2.out, (fun _ => rfl), HRF2.out, by rw [HLL.out]; exact T.out⟩
              · have hk17 : k1 < 7 := hlt7 k1 (.tail _ (.head _))
                have t6 : (((left2[0]'h0s).toNat : Int) == 45) = false := by
                  rw [hfst]
                  have := sortB_ne hk1 hk17
                  rw [bne_iff_ne] at this
                  rw [beq_eq_false_iff_ne]; exact this
                have HRF1 := Lib.hid (show Vm.refL s.data.toList en (toks.drop (i + 1)) (k1 :: ks2) op nums1 acc = Vm.parse s.data.toList by rw [← HRF.out, hnumof]; dsimp only; rw [HNE.out]; rw [show Vm.whole (k1 :: ks2) = false from beq_eq_false_iff_ne.2 hk1]; rfl)
                have HLD := Lib.hid hl2d
                have HL7 := Lib.hid (show ∀ x ∈ k1 :: ks2, x < 7 from fun x hx => hlt7 x (.tail _ hx))
                have hl3' : nums1.length + (k1 :: ks2).length = 3 := by rw [List.length_cons] at hl3 ⊢; omega
                clear hld hwl hnumof hfst hl2d hlne2 hk1 hlt7
                go_wp2_with (first | (go_at_call 63; ((with_reducible refine (CNU.out _).mono ?_)); rintro e w3 ⟨rfl, hb3⟩; replace T := Lib.hid (T.out.below hb3); clear hb3) | (at_builtin; obtain ⟨hi, hz0, hz1, hz2⟩ := HINT.out; refine wpList_append_row2 (by rfl) _ _ 22 (by rfl) iI _ 8 Tryd.underlying22 hi hz0 hz1 hz2 rfl (by decide) (T.out.swap.below ((Below.refl _ _).alloc (Nat.le_refl _) _)) (by decide) (by rfl) _ _ 1 1 [.int .i64 nr] (by rfl) (reads_blk (Blk.new _ _ _) rfl) (intVals_one [nr]) (by unfold maxLen; omega) (by omega) ?_; intro v5 w5 M5 h5 _; rw [HN1.out, HNL1.out] at h5; replace T := Lib.hid h5.swap; clear h5 hi hz0 hz1 hz2))
                go_roundg (gq - 1)
                case measure => omega
                case rel => exact ⟨i + 1, k1 :: ks2, nums1, acc, op, left2, _, by omega, by go_num, rfl, rfl, by omega, by omega, (fun _ => ⟨HLD.out, hl3', HL7.out⟩), hop, HIN.out, HAI.out, (fun h => by cases h), HRF1.out, T.out⟩
      · have hin : i = nt := by omega
        have hdr : toks.drop i = [] := List.drop_eq_nil_of_le (by rw [HNT.out]; omega)
        rw [hdr, Vm.refL_nil, Vm.strLn, hsn] at hrf
        have k1 : ¬ (i : Int) < (nt : Int) := by omega
        clear hin hdr
        cases ks with
        | cons k ks =>
          obtain ⟨hld, hl3, hlt7⟩ := hleft (by simp)
          have hlne : left.data.toList ≠ [] := by rw [hld]; simp
          have z1 : left.toList.isEmpty = false := by rw [ByteArray.toList_eq]; cases hh : left.data.toList with | nil => exact absurd hh hlne | cons _ _ => rfl
          have z2 : left.data.toList.isEmpty = false := by cases hh : left.data.toList with | nil => exact absurd hh hlne | cons _ _ => rfl
          have HG := Lib.hid (show Vm.parse s.data.toList = ([], (en : Int), 2) by rw [← hrf, if_pos (Or.inl (by simp))])
          clear hleft hle0 hlne hld hlt7 hrf
          go_wp2_with fail
          go_ret3
          exact parseErr HG.out T.out.r1.h.bl
        | nil =>
          obtain rfl := hle0 rfl
          clear hleft hle0
          by_cases hen : en < n
          · have HG := Lib.hid (show Vm.parse s.data.toList = ([], (en : Int), 2) by rw [← hrf, if_pos (Or.inr hen)])
            have q1 : decide (en < n) = true := decide_eq_true hen
            have q2 : decide ((en : Int) < (n : Int)) = true := decide_eq_true (by omega)
            clear hrf hen
            go_wp2_with fail
            go_ret3
            exact parseErr HG.out T.out.r1.h.bl
          · have HG := Lib.hid (show Vm.parse s.data.toList = Vm.fin acc by rw [← hrf, if_neg (by simp; omega)])
            have q1 : decide (en < n) = false := decide_eq_false hen
            have q2 : decide ((en : Int) < (n : Int)) = false := decide_eq_false (by omega)
            clear hrf hen
            obtain ⟨A', c', hv, hlc, hcm, hF⟩ := T.out.r1.freeze (l := acc) rfl rfl (flat_ins HAI.out) (fun _ h => by cases h)
            subst hv
            have CV := Lib.hid (rValid_any acc A' c' wo ((hF.fact (.head _)).sub (fun _ h => by cases h)) (by omega))
            have HF := Lib.hid hF
            obtain ⟨vv, hvv⟩ : ∃ z, Vm.vld acc = z := ⟨_, rfl⟩
            rw [hvv] at CV
            obtain ⟨na, hna⟩ : ∃ z, acc.length = z := ⟨_, rfl⟩
            have HNA := Lib.hid hna
            have HVV := Lib.hid hvv
            rw [hna] at CV hlc ⊢
            clear hvv hF hna
            by_cases h0 : vv = 0
            · subst h0
              go_wp2_with (go_at_call 19; ((with_reducible refine (CV.out).mono ?_)); rintro e w2 ⟨rfl, hb2⟩; replace HF := Lib.hid (HF.out.below hb2); clear hb2)
              go_ret3
              have hfin : Vm.parse s.data.toList = (acc, 0, 0) := by rw [HG.out]; unfold Vm.fin; rw [if_pos HVV.out]
              refine ⟨.slice A' na c', by rw [hfin]; rfl, ?_, HF.out.bl⟩
              rw [hfin]
              exact ⟨A', c', by rw [HNA.out], by rw [HNA.out]; exact hlc, hcm, (HF.out.fact (.head _)).sub (fun _ h => by cases h)⟩
            · have r1 : (vv == 0) = false := by simpa using h0
              have r2 : (vv != 0) = true := by simpa using h0
              have HG2 := Lib.hid (show Vm.parse s.data.toList = ([], 0, vv) by rw [HG.out]; unfold Vm.fin; rw [if_neg (by rw [HVV.out]; exact h0), HVV.out])
              clear h0
              go_wp2_with (go_at_call 19; ((with_reducible refine (CV.out).mono ?_)); rintro e w2 ⟨rfl, hb2⟩; replace HF := Lib.hid (HF.out.below hb2); clear hb2)
              go_ret3
              exact parseErr HG2.out HF.out.bl
end Go.Proofs.YtdpcdocaahjeoaaDoor
