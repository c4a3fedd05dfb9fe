/- The reference's Parse. -/
import Derived.Test.YtknnbejhfhadnaaDoorW24
import Derived.Deep.DeepCutAuto
import Derived.Outline
import Derived.Deep.CutBlock
namespace Go.Proofs.YtknnbejhfhadnaaDoor
open Go.RowKit Go.Sort
def AtLoop (s : ByteArray) (k : Nat) : Prop := Rt.cutF s.data.toList = s.data.toList.take k ++ Rt.cutF (s.data.toList.drop k) ∧ Rt.cutS s.data.toList = Rt.cutS (s.data.toList.drop k)
theorem atLoop0 (s : ByteArray) : AtLoop s 0 := ⟨by simp, by simp⟩
theorem drop_at (s : ByteArray) (k : Nat) (h : k < s.size) : s.data.toList.drop k = s[k] :: s.data.toList.drop (k + 1) := by
  rw [List.drop_eq_getElem_cons (by simpa using h)]; rfl
theorem AtLoop.next {s : ByteArray} {k : Nat} (h : AtLoop s k) (hk : k < s.size) (hc : ¬ s[k] = 47) : AtLoop s (k + 1) := by
  obtain ⟨h1, h2⟩ := h
  rw [drop_at s k hk] at h1 h2
  simp only [Rt.cutF, Rt.cutS, if_neg hc] at h1 h2
  exact ⟨by rw [h1, take_snoc s k hk, List.append_assoc]; rfl, h2⟩
def CutIs (s : ByteArray) (u v : Value) : Prop := ∃ f g : ByteArray, u = .string f ∧ v = .string g ∧ f.data.toList = Rt.cutF s.data.toList ∧ g.data.toList = Rt.cutS s.data.toList ∧ f.size ≤ s.size ∧ g.size ≤ s.size + 1
theorem AtLoop.hit {s : ByteArray} {k : Nat} (h : AtLoop s k) (hk : k < s.size) (hc : s[k] = 47) : CutIs s (.string (s.extract 0 k)) (.string (s.extract (k + 1) s.size)) := by
  obtain ⟨h1, h2⟩ := h
  rw [drop_at s k hk] at h1 h2
  simp only [Rt.cutF, Rt.cutS, if_pos hc, List.append_nil] at h1 h2
  refine ⟨_, _, rfl, rfl, ?_, ?_, by rw [ByteArray.size_extract]; omega, by rw [ByteArray.size_extract]; omega⟩
  · rw [h1, Lib.extract_data]; simp
  · rw [h2, Lib.extract_to_end]
theorem AtLoop.stop {s : ByteArray} {k : Nat} (h : AtLoop s k) (hk : ¬ k < s.size) : CutIs s (.string s) (.string ⟨#[49]⟩) := by
  obtain ⟨h1, h2⟩ := h
  have e : s.data.toList.length = s.size := Array.length_toList
  rw [List.drop_eq_nil_of_le (by omega)] at h1 h2
  rw [List.take_of_length_le (by omega)] at h1
  simp only [Rt.cutF, Rt.cutS, List.append_nil] at h1 h2
  exact ⟨_, _, rfl, rfl, h1.symm, h2.symm, Nat.le_refl _, by show 1 ≤ _; omega⟩
def SgnIs (l : List UInt8) (n : Nat) (u v : Value) : Prop := ∃ f : ByteArray, u = .string f ∧ v = .int .i64 (Rt.sgn l) ∧ f.data.toList = Rt.rest l ∧ f.size ≤ n
theorem Rt.numV_bd (l : List UInt8) : 0 ≤ Rt.numV l ∧ Rt.numV l ≤ 10000000000 := by
  unfold Rt.numV
  split
  · rename_i h
    unfold Rt.numOk at h
    simp only [Bool.and_eq_true, decide_eq_true_eq] at h
    have h1 := Rt.decV_lt l h.1
    have h2 : 10 ^ l.length ≤ 10 ^ 10 := Nat.pow_le_pow_right (by decide) h.2
    omega
  · omega
set_option maxHeartbeats 4000000 in
theorem rParse_any (s : ByteArray) (w : World) (hs : s.size ≤ 40) (ht : TEnv w) : Calls Tryd.prog 21 #[.string s] w fun e w' => TupIs (Rt.par s.data.toList) e ∧ Below w.heap.size w w' := by
  have T0 := Lib.hid (resT0 w ht)
  go_enter Tryd.func21, Tryd.ntmps21
  go_upto_block 0 with fail
  go_cut [4, 5] from 14 to 30 (fun a b w' => CutIs s a b ∧ w' = w.alloc (.cells #[.int .i64 0, .int .i64 0] 23))
  case first =>
    go_wp2_with fail
    go_loop [4, 5, 6] (fun a b i => ∃ k : Nat, k ≤ s.size ∧ i = .int .i64 k ∧ a = .string s ∧ b = .string ⟨#[49]⟩ ∧ AtLoop s k) (fun _ _ i => s.size - (intOf i).toNat)
    case atStart => exact ⟨0, by omega, rfl, rfl, rfl, atLoop0 s⟩
    case round =>
      obtain ⟨k, hk, rfl, rfl, rfl, hal⟩ := hrel
      by_cases hlt : k < s.size
      · by_cases hc : s[k] = 47
        · have HC := Lib.hid (hal.hit hlt hc)
          have hcb : ((s[k].toNat : Int) == 47) = true := by rw [hc]; rfl
          clear hc hal
          go_wp2_with fail
          go_meet
          case rel => exact ⟨HC.out, rfl⟩
        · have HC := Lib.hid (hal.next hlt hc)
          have hcb : ((s[k].toNat : Int) == 47) = false := by
            cases h : ((s[k].toNat : Int) == 47) with
            | false => rfl
            | true =>
              have h2 : (s[k].toNat : Int) = 47 := by simpa using h
              exact absurd (UInt8.toNat_inj.1 (by show s[k].toNat = 47; omega)) hc
          clear hc hal
          go_wp2_with fail
          go_round
          case rel => exact ⟨k + 1, by omega, by go_num, rfl, rfl, HC.out⟩
          case measure => simp [intOf]; omega
      · have HC := Lib.hid (hal.stop hlt)
        clear hal
        go_wp2_with fail
        go_meet
        case rel => exact ⟨HC.out, rfl⟩
  case rest =>
    obtain ⟨⟨f, g, rfl, rfl, hf, hg, hfs, hgs⟩, rfl⟩ := hcut
    have F := Lib.hid hf; have G := Lib.hid hg
    clear hf hg
    go_upto_if 33 with fail
    go_cut [4, 7] from 31 to 38 (fun a b w' => SgnIs (Rt.cutF s.data.toList) 40 a b ∧ w' = w.alloc (.cells #[.int .i64 0, .int .i64 0] 23))
    case first =>
      have el : f.data.toList.length = f.size := Array.length_toList
      by_cases h0 : 0 < f.size
      · have e0 : f.data.toList = f[0] :: f.data.toList.drop 1 := by
          have := drop_at f 0 h0
          simpa using this
        by_cases hc : f[0] = 45
        · have HC := Lib.hid (show SgnIs (Rt.cutF s.data.toList) 40 (.string (f.extract 1 f.size)) (.int .i64 (-1)) by
            refine ⟨_, rfl, ?_, ?_, by rw [ByteArray.size_extract]; omega⟩
            · unfold Rt.sgn Rt.neg; rw [← F.out, e0, hc]; rfl
            · unfold Rt.rest Rt.neg; rw [← F.out, Lib.extract_to_end, e0, hc]; rfl)
          have hcb : ((f[0].toNat : Int) == 45) = true := by rw [hc]; rfl
          clear hc e0 el F
          go_wp2_with fail
          go_meet
          case rel => exact ⟨HC.out, rfl⟩
        · have hcn : ¬ (f[0].toNat : Int) = 45 := fun h => hc (UInt8.toNat_inj.1 (by show f[0].toNat = 45; omega))
          have HC := Lib.hid (show SgnIs (Rt.cutF s.data.toList) 40 (.string f) (.int .i64 1) by
            have hn : Rt.neg (Rt.cutF s.data.toList) = false := by
              unfold Rt.neg; rw [← F.out, e0, List.head?_cons]
              cases h : (some f[0] == some (45 : UInt8)) with
              | false => rfl
              | true => exact absurd (by simpa using h) hc
            refine ⟨_, rfl, ?_, ?_, by omega⟩
            · unfold Rt.sgn; rw [hn]; rfl
            · unfold Rt.rest; rw [hn, ← F.out]; rfl)
          have hcb : ((f[0].toNat : Int) == 45) = false := by simpa using hcn
          clear hc e0 el F hcn
          go_wp2_with fail
          go_meet
          case rel => exact ⟨HC.out, rfl⟩
      · have HC := Lib.hid (show SgnIs (Rt.cutF s.data.toList) 40 (.string f) (.int .i64 1) by
          have hn : f.data.toList = [] := List.eq_nil_of_length_eq_zero (by omega)
          have hn2 : Rt.neg (Rt.cutF s.data.toList) = false := by unfold Rt.neg; rw [← F.out, hn]; rfl
          refine ⟨_, rfl, ?_, ?_, by omega⟩
          · unfold Rt.sgn; rw [hn2]; rfl
          · unfold Rt.rest; rw [hn2, ← F.out]; rfl)
        clear el F
        go_wp2_with fail
        go_meet
        case rel => exact ⟨HC.out, rfl⟩
    case rest =>
      obtain ⟨⟨r, rfl, rfl, hr, hrs⟩, rfl⟩ := hcut
      have hN1 := fun w => number_any r w (by omega)
      have hN2 := fun w => number_any g w (by omega)
      unfold NumIs at hN1 hN2
      rw [hr] at hN1
      rw [G.out] at hN2
      have b1 := Rt.numV_bd (Rt.rest (Rt.cutF s.data.toList))
      have b2 := Rt.numV_bd (Rt.cutS s.data.toList)
      have hP : Rt.rP s.data.toList = Rt.sgn (Rt.cutF s.data.toList) * Rt.numV (Rt.rest (Rt.cutF s.data.toList)) := rfl
      have hQ : Rt.rQ s.data.toList = Rt.numV (Rt.cutS s.data.toList) := rfl
      have hok : Rt.rOk s.data.toList = (Rt.numB (Rt.rest (Rt.cutF s.data.toList)) && Rt.numB (Rt.cutS s.data.toList) && !(Rt.rQ s.data.toList == 0) && decide (Rt.txt (Rt.rP s.data.toList) (Rt.rQ s.data.toList) = s.data.toList)) := rfl
      have hsg : Rt.sgn (Rt.cutF s.data.toList) = 1 ∨ Rt.sgn (Rt.cutF s.data.toList) = -1 := by unfold Rt.sgn; split <;> simp
      have hpar := Rt.ref_par s.data.toList
      generalize Rt.rOk s.data.toList = ok at hok hpar
      generalize Rt.rP s.data.toList = P at hP hok hpar
      generalize Rt.rQ s.data.toList = Q at hQ hok hpar
      generalize Rt.sgn (Rt.cutF s.data.toList) = σ at hP hsg
      generalize Rt.numB (Rt.rest (Rt.cutF s.data.toList)) = x1 at *
      generalize Rt.numB (Rt.cutS s.data.toList) = x2 at *
      generalize Rt.numV (Rt.rest (Rt.cutF s.data.toList)) = n1 at *
      generalize Rt.numV (Rt.cutS s.data.toList) = n2 at *
      subst hQ
      have iP : inI P := by rcases hsg with h | h <;> rw [hP, h] <;> unfold inI <;> omega
      have iQ : inI Q := by unfold inI; omega
      have wP : IntKind.i64.wrap P = P := wrapI iP
      have P0 := Lib.hid (show PB P Q (w.heap.size + 1) w ((w.alloc (.cells #[.int .i64 0, .int .i64 0] 23)).alloc (.cells #[.int .i64 P, .int .i64 Q] 23)) by have := pb0 P Q T0.out; simpa using this)
      have ct := fun w => rText_any P Q w iP iQ
      obtain ⟨t, htx⟩ : ∃ t : ByteArray, (⟨(Rt.txt P Q).toArray⟩ : ByteArray) = t := ⟨_, rfl⟩
      rw [htx] at ct
      have C1 := Lib.hid hN1; have C2 := Lib.hid hN2
      have hm := hP.symm
      clear hN1 hN2 hsg hfs hgs hr hrs iP iQ hP b1 b2 F G
      obtain ⟨c0, c1, f0, f1⟩ := cells_of P0.out.ba
      obtain ⟨c2, c3, f2, f3⟩ := cells_of P0.out.b2
      cases x1
      · have HP := Lib.hid (show Rt.par s.data.toList = (0, 0, 2) by rw [hpar, hok]; rfl)
        clear hok hpar ct htx
        go_wp2_with (first | (go_at_call 38; ((with_reducible refine (C1.out _).mono ?_)); rintro e w2 ⟨rfl, rfl⟩) | (go_at_call 38; ((with_reducible refine (C2.out _).mono ?_)); rintro e w2 ⟨rfl, rfl⟩) | (go_at_call 15; ((with_reducible refine (CT3.out _).mono ?_)); rintro e w2 ⟨rfl, hb2⟩; replace P0 := Lib.hid (P0.out.below hb2); obtain ⟨c0, c1, f0, f1⟩ := cells_of P0.out.ba; obtain ⟨c2, c3, f2, f3⟩ := cells_of P0.out.b2))
        have k1 := P0.out.b2; have k2 := P0.out.bl
        exact fin2 rfl rfl rfl rfl k1 ⟨TupIs.mk HP.out, k2⟩
      · cases x2
        · have HP := Lib.hid (show Rt.par s.data.toList = (0, 0, 2) by rw [hpar, hok]; rfl)
          clear hok hpar ct htx
          go_wp2_with (first | (go_at_call 38; ((with_reducible refine (C1.out _).mono ?_)); rintro e w2 ⟨rfl, rfl⟩) | (go_at_call 38; ((with_reducible refine (C2.out _).mono ?_)); rintro e w2 ⟨rfl, rfl⟩) | (go_at_call 15; ((with_reducible refine (CT3.out _).mono ?_)); rintro e w2 ⟨rfl, hb2⟩; replace P0 := Lib.hid (P0.out.below hb2); obtain ⟨c0, c1, f0, f1⟩ := cells_of P0.out.ba; obtain ⟨c2, c3, f2, f3⟩ := cells_of P0.out.b2))
          have k1 := P0.out.b2; have k2 := P0.out.bl
          exact fin2 rfl rfl rfl rfl k1 ⟨TupIs.mk HP.out, k2⟩
        · by_cases hq0 : Q = 0
          · have b1 : (Q == 0) = true := by simpa using hq0
            have HP := Lib.hid (show Rt.par s.data.toList = (0, 0, 2) by rw [hpar, hok, b1]; rfl)
            clear hok hpar ct htx hq0
            go_wp2_with (first | (go_at_call 38; ((with_reducible refine (C1.out _).mono ?_)); rintro e w2 ⟨rfl, rfl⟩) | (go_at_call 38; ((with_reducible refine (C2.out _).mono ?_)); rintro e w2 ⟨rfl, rfl⟩) | (go_at_call 15; ((with_reducible refine (CT3.out _).mono ?_)); rintro e w2 ⟨rfl, hb2⟩; replace P0 := Lib.hid (P0.out.below hb2); obtain ⟨c0, c1, f0, f1⟩ := cells_of P0.out.ba; obtain ⟨c2, c3, f2, f3⟩ := cells_of P0.out.b2))
            have k1 := P0.out.b2; have k2 := P0.out.bl
            exact fin2 rfl rfl rfl rfl k1 ⟨TupIs.mk HP.out, k2⟩
          · have b1 : (Q == 0) = false := by simpa using hq0
            have hts : (t = s) ↔ Rt.txt P Q = s.data.toList := by
              rw [← htx]
              constructor
              · intro h; rw [← h]
              · intro h; rw [h]
            by_cases hs2 : t = s
            · have HP := Lib.hid (show Rt.par s.data.toList = (P, Q, 0) by rw [hpar, hok, b1, decide_eq_true (hts.1 hs2)]; rfl)
              rw [hs2] at ct
              have CT3 := Lib.hid ct
              clear hq0 hok hpar hts hs2 ct htx
              go_wp2_with (first | (go_at_call 38; ((with_reducible refine (C1.out _).mono ?_)); rintro e w2 ⟨rfl, rfl⟩) | (go_at_call 38; ((with_reducible refine (C2.out _).mono ?_)); rintro e w2 ⟨rfl, rfl⟩) | (go_at_call 15; ((with_reducible refine (CT3.out _).mono ?_)); rintro e w2 ⟨rfl, hb2⟩; replace P0 := Lib.hid (P0.out.below hb2); obtain ⟨c0, c1, f0, f1⟩ := cells_of P0.out.ba; obtain ⟨c2, c3, f2, f3⟩ := cells_of P0.out.b2))
              obtain ⟨k1, k2⟩ := P0.out.res P Q
              exact fin2 rfl rfl rfl rfl k1 ⟨TupIs.mk HP.out, k2⟩
            · have b2 : (t.toList == s.toList) = false := by
                cases h : (t.toList == s.toList) with
                | false => rfl
                | true =>
                  have e : t.toList = s.toList := by simpa using h
                  exact absurd (str_inj e) hs2
              have HP := Lib.hid (show Rt.par s.data.toList = (0, 0, 2) by
                rw [hpar, hok, b1, decide_eq_false (fun h => hs2 (hts.2 h))]; rfl)
              have CT3 := Lib.hid ct
              clear hq0 hok hpar hts hs2 ct htx
              go_wp2_with (first | (go_at_call 38; ((with_reducible refine (C1.out _).mono ?_)); rintro e w2 ⟨rfl, rfl⟩) | (go_at_call 38; ((with_reducible refine (C2.out _).mono ?_)); rintro e w2 ⟨rfl, rfl⟩) | (go_at_call 15; ((with_reducible refine (CT3.out _).mono ?_)); rintro e w2 ⟨rfl, hb2⟩; replace P0 := Lib.hid (P0.out.below hb2); obtain ⟨c0, c1, f0, f1⟩ := cells_of P0.out.ba; obtain ⟨c2, c3, f2, f3⟩ := cells_of P0.out.b2))
              obtain ⟨k1, k2⟩ := P0.out.res 0 0
              exact fin2 rfl rfl rfl rfl k1 ⟨TupIs.mk HP.out, k2⟩
end Go.Proofs.YtknnbejhfhadnaaDoor
