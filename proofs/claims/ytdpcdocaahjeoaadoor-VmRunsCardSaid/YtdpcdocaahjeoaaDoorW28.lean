/- Scan. -/
import Derived.Test.YtdpcdocaahjeoaaDoorW27
namespace Go.Proofs.YtdpcdocaahjeoaaDoor
open Go Go.RowKit
abbrev Tk := Nat × Nat
def tokI (p : Tk) : Int × Int := ((p.1 : Int), (p.2 : Int))
def tokVals (l : List Tk) : List Value := l.flatMap fun p => [.int .i64 (p.1 : Int), .int .i64 (p.2 : Int)]
theorem tokVals_snoc (l : List Tk) (p : Tk) : tokVals l ++ [.int .i64 (p.1 : Int), .int .i64 (p.2 : Int)] = tokVals (l ++ [p]) := by simp [tokVals]
theorem tok_one (a b : Nat) : ∀ u ∈ [Value.int .i64 (a : Int), Value.int .i64 (b : Int)], u.oneCell' = true := by
  intro u hu; simp only [List.mem_cons, List.not_mem_nil, or_false] at hu; rcases hu with rfl | rfl <;> rfl
theorem flat_toks {G : List Nat} {w : World} {n : Nat} (hn : n ≤ 1000000) : ∀ {l : List Tk}, (∀ p ∈ l, p.1 ≤ p.2 ∧ p.2 ≤ n) → Flat G w (l.map tokI) (tokVals l)
  | [], _ => rfl
  | p :: l, h => ⟨[.int .i64 (p.1 : Int), .int .i64 (p.2 : Int)], tokVals l, rfl, ⟨[_], _, rfl, ⟨rfl, by have := h p (.head _); unfold inI tokI; simp only; omega⟩, ⟨rfl, by have := h p (.head _); unfold inI tokI; simp only; omega⟩⟩, flat_toks hn fun q hq => h q (.tail _ hq)⟩
theorem infoTok : (Tryd.prog.info? 133).map (fun i => (i.zero, i.size, i.bytes)) = some (some (.agg #[.int .i64 0, .int .i64 0]), 2, 16) := by kernel_rfl
theorem tok_cases2 (c : UInt8) : (Vm.isTok c = true ∧ decide (32 < (c.toNat : Int)) = true ∧ decide ((c.toNat : Int) < 127) = true) ∨ (Vm.isTok c = false ∧ decide (32 < (c.toNat : Int)) = false) ∨ (Vm.isTok c = false ∧ decide (32 < (c.toNat : Int)) = true ∧ decide ((c.toNat : Int) < 127) = false) := by
  unfold Vm.isTok
  simp only [Bool.and_eq_true, Bool.and_eq_false_iff, decide_eq_true_eq, decide_eq_false_iff_not]
  omega
theorem scan_blank {l : List UInt8} {f i : Nat} (h : i < l.length) (hb : Vm.isBlank l[i] = true) : Vm.scan l (f + 1) i = Vm.scan l (f + 1) (i + 1) := by
  have e : Vm.skipN l i = Vm.skipN l (i + 1) := by
    unfold Vm.skipN
    rw [List.drop_eq_getElem_cons h, List.takeWhile_cons, hb, if_pos rfl, List.length_cons]; omega
  rw [Vm.scan_eq, Vm.scan_eq, e]
theorem scan_len {l : List UInt8} {f : Nat} : Vm.scan l (f + 1) l.length = ([], l.length) := by
  have e : Vm.skipN l l.length = l.length := by unfold Vm.skipN; simp
  rw [Vm.scan_eq, e]; unfold Vm.wordAt; simp
def ScanP (l : List UInt8) (w : World) (e : Ending) (w' : World) : Prop := ∃ A c, e = .returned (.tuple #[.slice A (Vm.scan l (l.length + 1) 0).1.length c, .int .i64 ((Vm.scan l (l.length + 1) 0).2 : Nat)]) ∧ SlAt [] w' A ((Vm.scan l (l.length + 1) 0).1.map tokI) ∧ (Vm.scan l (l.length + 1) 0).1.length ≤ l.length ∧ (∀ p ∈ (Vm.scan l (l.length + 1) 0).1, p.1 ≤ p.2 ∧ p.2 ≤ l.length) ∧ Below w.heap.size w w'
theorem scan_end {s : ByteArray} {w W : World} {M : List Nat} {v : Value} {toks : List Tk} {e n : Nat} (T : HRow w [] M [] [] 133 2 v toks.length (tokVals toks) W) (h : Vm.scan s.data.toList (n + 1) 0 = (toks, e)) (hn : s.size = n) (hbd : (∀ p ∈ toks, p.1 ≤ p.2 ∧ p.2 ≤ n)) (hm : n ≤ 1000000) (htl : toks.length ≤ n) : ScanP s.data.toList w (.returned (.tuple #[v, .int .i64 (e : Int)])) W := by
  obtain ⟨A, c, hv, _, _, hF⟩ := T.freeze (l := toks.map tokI) rfl (by simp) (flat_toks hm hbd) (fun _ h => by cases h)
  subst hv
  have hl : s.data.toList.length = n := by rw [Vm.strLn, hn]
  unfold ScanP
  rw [hl, h]
  exact ⟨A, c, by rw [List.length_map], (hF.fact (.head _)).sub (fun _ h => by cases h), htl, hbd, hF.bl⟩
set_option maxRecDepth 100000 in
set_option maxHeartbeats 4000000 in
theorem scan_any (s : ByteArray) (w : World) (hs : s.size ≤ 1000000) : Calls Tryd.prog 58 #[.string s] w (ScanP s.data.toList w) := by
  obtain ⟨i0, hi, hz0, hz1, hz2⟩ := info_parts infoTok
  have HII := Lib.hid (show _ ∧ _ ∧ _ ∧ _ from ⟨hi, hz0, hz1, hz2⟩)
  obtain ⟨n, hn⟩ : ∃ n, s.size = n := ⟨_, rfl⟩
  have hsn : s.size = n := hn
  rw [hn] at hs
  have T := Lib.hid (HRow.start (e := 133) (size := 2) (held0 w [] (fun _ h => by cases h)))
  clear hi hz0 hz1 hz2
  go_enter Tryd.func58, Tryd.ntmps58
  go_wp2_with fail
  go_loopg [4, 5] n (fun r v a wr => ∃ (i f : Nat) (toks : List Tk) (M : List Nat), i + r = n ∧ a = .int .i64 i ∧ i ≤ n ∧ n < i + f ∧ toks.length ≤ i ∧ (∀ p ∈ toks, p.1 ≤ p.2 ∧ p.2 ≤ n) ∧ (toks ++ (Vm.scan s.data.toList f i).1, (Vm.scan s.data.toList f i).2) = Vm.scan s.data.toList (n + 1) 0 ∧ HRow w [] M [] [] 133 2 v toks.length (tokVals toks) wr)
  case atStart => exact ⟨0, n + 1, [], _, by omega, rfl, by omega, by omega, by simp, (fun _ h => by cases h), by simp, T.out⟩
  case round =>
    obtain ⟨i, f, toks, M, hk, rfl, hin, hfu, htl, hbd, hsc, hH⟩ := hrel
    obtain ⟨wo, rfl⟩ : ∃ wo : World, wo = wr := ⟨_, rfl⟩
    obtain ⟨gq, rfl⟩ : ∃ g : Nat, g = gk := ⟨_, rfl⟩
    replace T := Lib.hid hH
    have HBD := Lib.hid hbd
    obtain ⟨f, rfl⟩ : ∃ f', f = f' + 1 := ⟨f - 1, by omega⟩
    have HSC := Lib.hid hsc
    have HSE := Lib.hid (Vm.scan_eq s.data.toList f i)
    clear hH hbd hsc
    by_cases hlt : i < n
    · have hix : i < s.size := by omega
      have k0 : (0 : Int) ≤ (i : Int) := Int.natCast_nonneg _
      have k1 : (i : Int) < (n : Int) := by omega
      rcases Vm.blank_cases (s[i]'hix) with ⟨hb, t1⟩ | ⟨hb, t1, t2⟩ | ⟨hb, t1, t2⟩
      · have HSC2 := Lib.hid (show (toks ++ (Vm.scan s.data.toList (f + 1) (i + 1)).1, (Vm.scan s.data.toList (f + 1) (i + 1)).2) = Vm.scan s.data.toList (n + 1) 0 by rw [← HSC.out, scan_blank (f := f) (i := i) (by rw [Vm.strLn]; exact hix) (by rw [Vm.str_get s i hix]; exact hb)])
        clear hb
        go_wp2_with fail
        go_roundg (gq - 1)
        case measure => omega
        case rel => exact ⟨i + 1, f + 1, _, _, by omega, by go_num, by omega, by omega, by omega, HBD.out, HSC2.out, T.out⟩
      · have HSC2 := Lib.hid (show (toks ++ (Vm.scan s.data.toList (f + 1) (i + 1)).1, (Vm.scan s.data.toList (f + 1) (i + 1)).2) = Vm.scan s.data.toList (n + 1) 0 by rw [← HSC.out, scan_blank (f := f) (i := i) (by rw [Vm.strLn]; exact hix) (by rw [Vm.str_get s i hix]; exact hb)])
        clear hb
        go_wp2_with fail
        go_roundg (gq - 1)
        case measure => omega
        case rel => exact ⟨i + 1, f + 1, _, _, by omega, by go_num, by omega, by omega, by omega, HBD.out, HSC2.out, T.out⟩
      · have HSK := Lib.hid (Vm.skipN_is (l := s.data.toList) (a := i) (e := i) (Nat.le_refl _) (by rw [Vm.strLn]; omega) (fun j _ h1 h2 => by omega) (.inr ⟨by rw [Vm.strLn]; exact hix, by rw [Vm.str_get s i hix]; exact hb⟩))
        clear hb
        go_wp2_with fail
        go_loopg [6] (n - i) (fun r a wr2 => ∃ e : Nat, e + r = n ∧ i ≤ e ∧ a = .int .i64 e ∧ wr2 = wo ∧ ∀ j (hj : j < s.data.toList.length), i ≤ j → j < e → Vm.isTok s.data.toList[j] = true)
        case atStart => exact ⟨i, by omega, Nat.le_refl _, rfl, rfl, fun j _ h1 h2 => by omega⟩
        case round =>
          obtain ⟨e, hk2, hae, rfl, rfl, hall⟩ := hrel
          obtain ⟨wo, rfl⟩ : ∃ w0 : World, w0 = wr := ⟨_, rfl⟩
          have HB := Lib.hid hall
          clear hall
          by_cases hlt2 : e < n
          · have hex : e < s.size := by omega
            have k2 : (0 : Int) ≤ (e : Int) := Int.natCast_nonneg _
            have k3 : (e : Int) < (n : Int) := by omega
            rcases tok_cases2 (s[e]'hex) with ⟨ht, q1, q2⟩ | ⟨ht, q1⟩ | ⟨ht, q1, q2⟩
            · have HT := Lib.hid ht
              clear ht
              go_wp2_with fail
              go_roundg (gk - 1)
              case measure => omega
              case rel =>
                refine ⟨e + 1, by omega, by omega, by go_num, rfl, fun j hj h1 h2 => ?_⟩
                rcases Nat.lt_or_ge j e with h' | h'
                · exact HB.out j hj h1 h'
                · obtain rfl : j = e := by omega
                  rw [Vm.str_get s j hex]; exact HT.out
            · have HW := Lib.hid (Vm.wordAt_is (l := s.data.toList) hae (by rw [Vm.strLn]; omega) HB.out (.inr ⟨by rw [Vm.strLn]; exact hex, by rw [Vm.str_get s e hex]; exact ht⟩))
              clear ht
              by_cases hei : e = i
              · subst hei
                have t9 : ((e : Int) == (e : Int)) = true := by simp
                have t10 : (e == e) = true := by simp
                have HFIN := Lib.hid (show Vm.scan s.data.toList (n + 1) 0 = (toks, e) by
                  rw [← HSC.out, HSE.out, HSK.out, HW.out]; simp)
                go_wp2_with fail
                go_ret2
                exact scan_end T.out HFIN.out hsn HBD.out hs (by omega)
              · have t9 : ((e : Int) == (i : Int)) = false := by rw [beq_eq_false_iff_ne]; omega
                have t10 : (e == i) = false := beq_eq_false_iff_ne.2 hei
                have hwl : (Vm.wordAt s.data.toList i).length = e - i := by rw [HW.out, List.length_take, List.length_drop, Vm.strLn]; omega
                have HSC2 := Lib.hid (show (toks ++ [(i, e)] ++ (Vm.scan s.data.toList f e).1, (Vm.scan s.data.toList f e).2) = Vm.scan s.data.toList (n + 1) 0 by
                  rw [← HSC.out, HSE.out, HSK.out, hwl, if_neg (fun h => by rw [h] at hwl; simp at hwl; omega), show i + (e - i) = e by omega]
                  simp)
                have HVS := Lib.hid (tokVals_snoc toks (i, e))
                obtain ⟨na, hna⟩ : ∃ z, toks.length = z := ⟨_, rfl⟩
                have HNA := Lib.hid (show (toks ++ [(i, e)]).length = na + 1 by rw [List.length_append, hna]; rfl)
                rw [hna] at T htl
                have HBD2 := Lib.hid (show ∀ p ∈ toks ++ [(i, e)], p.1 ≤ p.2 ∧ p.2 ≤ n from fun p hp => by
                  rcases List.mem_append.1 hp with h | h
                  · exact HBD.out p h
                  · rw [List.mem_singleton.1 h]; exact ⟨by show i ≤ e; omega, by show e ≤ n; omega⟩)
                clear hwl hna
                go_wp2_with (at_builtin; obtain ⟨hi, hz0, hz1, hz2⟩ := HII.out; refine wpList_append_row (by rfl) _ _ 129 (by rfl) 133 i0 _ 2 16 Tryd.underlying129 hi hz0 hz1 hz2 rfl (by decide) (T.out.below ((Below.refl _ _).alloc (Nat.le_refl _) _)) (by rfl) _ _ 1 1 [.int .i64 (i : Int), .int .i64 (e : Int)] (by rfl) (reads_blk (Blk.new _ _ _) rfl) (tok_one i e) (by unfold maxLen; omega) (by omega) ?_; intro v5 w5 M5 h5 _; rw [HVS.out, ← HNA.out] at h5; replace T := Lib.hid h5; clear h5 hi hz0 hz1 hz2)
                go_roundg (gq - (e - i))
                case measure => omega
                case rel => exact ⟨e, f, _, _, by omega, by first | rfl | go_num, by omega, by omega, by rw [HNA.out]; omega, HBD2.out, HSC2.out, T.out⟩
            · have HW := Lib.hid (Vm.wordAt_is (l := s.data.toList) hae (by rw [Vm.strLn]; omega) HB.out (.inr ⟨by rw [Vm.strLn]; exact hex, by rw [Vm.str_get s e hex]; exact ht⟩))
              clear ht
              by_cases hei : e = i
              · subst hei
                have t9 : ((e : Int) == (e : Int)) = true := by simp
                have t10 : (e == e) = true := by simp
                have HFIN := Lib.hid (show Vm.scan s.data.toList (n + 1) 0 = (toks, e) by
                  rw [← HSC.out, HSE.out, HSK.out, HW.out]; simp)
                go_wp2_with fail
                go_ret2
                exact scan_end T.out HFIN.out hsn HBD.out hs (by omega)
              · have t9 : ((e : Int) == (i : Int)) = false := by rw [beq_eq_false_iff_ne]; omega
                have t10 : (e == i) = false := beq_eq_false_iff_ne.2 hei
                have hwl : (Vm.wordAt s.data.toList i).length = e - i := by rw [HW.out, List.length_take, List.length_drop, Vm.strLn]; omega
                have HSC2 := Lib.hid (show (toks ++ [(i, e)] ++ (Vm.scan s.data.toList f e).1, (Vm.scan s.data.toList f e).2) = Vm.scan s.data.toList (n + 1) 0 by
                  rw [← HSC.out, HSE.out, HSK.out, hwl, if_neg (fun h => by rw [h] at hwl; simp at hwl; omega), show i + (e - i) = e by omega]
                  simp)
                have HVS := Lib.hid (tokVals_snoc toks (i, e))
                obtain ⟨na, hna⟩ : ∃ z, toks.length = z := ⟨_, rfl⟩
                have HNA := Lib.hid (show (toks ++ [(i, e)]).length = na + 1 by rw [List.length_append, hna]; rfl)
                rw [hna] at T htl
                have HBD2 := Lib.hid (show ∀ p ∈ toks ++ [(i, e)], p.1 ≤ p.2 ∧ p.2 ≤ n from fun p hp => by
                  rcases List.mem_append.1 hp with h | h
                  · exact HBD.out p h
                  · rw [List.mem_singleton.1 h]; exact ⟨by show i ≤ e; omega, by show e ≤ n; omega⟩)
                clear hwl hna
                go_wp2_with (at_builtin; obtain ⟨hi, hz0, hz1, hz2⟩ := HII.out; refine wpList_append_row (by rfl) _ _ 129 (by rfl) 133 i0 _ 2 16 Tryd.underlying129 hi hz0 hz1 hz2 rfl (by decide) (T.out.below ((Below.refl _ _).alloc (Nat.le_refl _) _)) (by rfl) _ _ 1 1 [.int .i64 (i : Int), .int .i64 (e : Int)] (by rfl) (reads_blk (Blk.new _ _ _) rfl) (tok_one i e) (by unfold maxLen; omega) (by omega) ?_; intro v5 w5 M5 h5 _; rw [HVS.out, ← HNA.out] at h5; replace T := Lib.hid h5; clear h5 hi hz0 hz1 hz2)
                go_roundg (gq - (e - i))
                case measure => omega
                case rel => exact ⟨e, f, _, _, by omega, by first | rfl | go_num, by omega, by omega, by rw [HNA.out]; omega, HBD2.out, HSC2.out, T.out⟩
          · have hen : e = n := by omega
            have HW := Lib.hid (Vm.wordAt_is (l := s.data.toList) hae (by rw [Vm.strLn]; omega) HB.out (.inl (by rw [Vm.strLn]; omega)))
            have hexn : ¬ (e : Int) < (n : Int) := by omega
            have hen1 : n ≤ e := by omega
            clear hen
            by_cases hei : e = i
            · exact absurd hei (by omega)
            · have t9 : ((e : Int) == (i : Int)) = false := by rw [beq_eq_false_iff_ne]; omega
              have t10 : (e == i) = false := beq_eq_false_iff_ne.2 hei
              have hwl : (Vm.wordAt s.data.toList i).length = e - i := by rw [HW.out, List.length_take, List.length_drop, Vm.strLn]; omega
              have HSC2 := Lib.hid (show (toks ++ [(i, e)] ++ (Vm.scan s.data.toList f e).1, (Vm.scan s.data.toList f e).2) = Vm.scan s.data.toList (n + 1) 0 by
                rw [← HSC.out, HSE.out, HSK.out, hwl, if_neg (fun h => by rw [h] at hwl; simp at hwl; omega), show i + (e - i) = e by omega]
                simp)
              have HVS := Lib.hid (tokVals_snoc toks (i, e))
              obtain ⟨na, hna⟩ : ∃ z, toks.length = z := ⟨_, rfl⟩
              have HNA := Lib.hid (show (toks ++ [(i, e)]).length = na + 1 by rw [List.length_append, hna]; rfl)
              rw [hna] at T htl
              have HBD2 := Lib.hid (show ∀ p ∈ toks ++ [(i, e)], p.1 ≤ p.2 ∧ p.2 ≤ n from fun p hp => by
                rcases List.mem_append.1 hp with h | h
                · exact HBD.out p h
                · rw [List.mem_singleton.1 h]; exact ⟨by show i ≤ e; omega, by show e ≤ n; omega⟩)
              clear hwl hna
              go_wp2_with (at_builtin; obtain ⟨hi, hz0, hz1, hz2⟩ := HII.out; refine wpList_append_row (by rfl) _ _ 129 (by rfl) 133 i0 _ 2 16 Tryd.underlying129 hi hz0 hz1 hz2 rfl (by decide) (T.out.below ((Below.refl _ _).alloc (Nat.le_refl _) _)) (by rfl) _ _ 1 1 [.int .i64 (i : Int), .int .i64 (e : Int)] (by rfl) (reads_blk (Blk.new _ _ _) rfl) (tok_one i e) (by unfold maxLen; omega) (by omega) ?_; intro v5 w5 M5 h5 _; rw [HVS.out, ← HNA.out] at h5; replace T := Lib.hid h5; clear h5 hi hz0 hz1 hz2)
              go_roundg (gq - (e - i))
              case measure => omega
              case rel => exact ⟨e, f, _, _, by omega, by first | rfl | go_num, by omega, by omega, by rw [HNA.out]; omega, HBD2.out, HSC2.out, T.out⟩
    · have hii : i = n := by omega
      have HFIN := Lib.hid (show Vm.scan s.data.toList (n + 1) 0 = (toks, n) by
        have h : s.data.toList.length = n := by rw [Vm.strLn, hsn]
        rw [← HSC.out, hii, ← h, scan_len]; simp)
      subst hii
      go_wp2_with fail
      go_ret2
      exact scan_end T.out HFIN.out hsn HBD.out hs (by omega)
end Go.Proofs.YtdpcdocaahjeoaaDoor
