/- The reference's Text. -/
import Derived.Test.YtknnbejhfhadnaaDoorW14
namespace Go.Proofs.YtknnbejhfhadnaaDoor
open Go.RowKit
set_option maxHeartbeats 4000000 in
theorem rText_any (P Q : Int) (w : World) (hP : inI P) (hQ : inI Q) : Calls Tryd.prog 15 #[.agg #[.int .i64 P, .int .i64 Q]] w fun e w' => e = .returned (.string ⟨(Rt.txt P Q).toArray⟩) ∧ Below w.heap.size w w' := by
  have cv := fun w => rValid_any P Q w hP hQ
  have T0 := Lib.hid (one0 P Q w)
  cases hv : Rt.vld P Q
  · have HR := Lib.hid (show Rt.txt P Q = [] by unfold Rt.txt; rw [hv]; rfl)
    rw [hv] at cv
    have CV := Lib.hid cv
    clear cv hP hQ hv
    go_enter Tryd.func15, Tryd.ntmps15
    go_wp2_with (first | (go_at_call 13; ((with_reducible refine (CV.out _).mono ?_)); rintro e w2 ⟨rfl, hb2⟩; replace T0 := Lib.hid (T0.out.below hb2); clear hb2; obtain ⟨c0, c1, f0, f1⟩ := cells_of T0.out.b0))
    go_ret
    exact ⟨by rw [HR.out]; rfl, T0.out.bl⟩
  · rw [hv] at cv
    have hvp := Rt.vld_iff.1 hv
    have q1 : 0 ≤ Q := by rcases hvp with ⟨_, a⟩ | ⟨a, _⟩ <;> omega
    have hd := Rt.den_pos hvp
    have bp := Rt.num_bd hvp
    have cd := fun w => den_any P Q w q1
    have hden : Rt.den Q = if Q = 0 then 1 else Q := rfl
    have ht : Rt.txt P Q = Lib.itoa P ++ (if 1 < Q then 47 :: Lib.itoa Q else []) := by unfold Rt.txt; rw [if_pos hv]
    obtain ⟨u, hu⟩ : ∃ u, P.natAbs = u := ⟨_, rfl⟩
    obtain ⟨v, hvv⟩ : ∃ v, Q.natAbs = v := ⟨_, rfl⟩
    have hQv : Q = (v : Int) := by omega
    have cu := fun w => rDigits_any u w (by omega)
    have cw := fun w => rDigits_any v w (by omega)
    obtain ⟨s, hs⟩ : ∃ s : ByteArray, (⟨(Lib.decDigits u).toArray⟩ : ByteArray) = s := ⟨_, rfl⟩
    obtain ⟨r, hr⟩ : ∃ r : ByteArray, (⟨(Lib.decDigits v).toArray⟩ : ByteArray) = r := ⟨_, rfl⟩
    rw [hs] at cu; rw [hr] at cw
    have s1 : s.size ≤ 10 := by rw [← hs]; exact Rt.decDigits_len u (by omega)
    have r1 : r.size ≤ 10 := by rw [← hr]; exact Rt.decDigits_len v (by omega)
    rw [← hQv] at cw
    have HD := Lib.hid hden
    generalize Rt.den Q = d at *
    have CV := Lib.hid cv; have CU := Lib.hid cu; have CW := Lib.hid cw; have CD := Lib.hid cd
    have HT := Lib.hid ht; have HS := Lib.hid hs; have HR := Lib.hid hr
    have HU := Lib.hid hu
    have HQV := Lib.hid hQv
    clear cv cu cw cd ht hs hr hden hv hvp hd q1 hvv
    have wu : IntKind.i64.wrap (u : Int) = u := wrapI (by unfold inI; omega)
    by_cases h0 : P < 0
    · have b1 : decide (P < 0) = true := by simpa using h0
      have hN : -P = (u : Int) := by omega
      by_cases h1 : 1 < Q
      · have hdv : 1 < d := by have := HD.out; split at this <;> omega
        have b2 : decide (1 < d) = true := by simpa using hdv
        have HX := Lib.hid (show (⟨(Rt.txt P Q).toArray⟩ : ByteArray) = (⟨#[45]⟩ ++ s) ++ ⟨#[47]⟩ ++ r by
          apply ByteArray.ext
          rw [HT.out, if_pos h1, ← HS.out, ← HR.out]
          unfold Lib.itoa
          rw [if_pos h0, if_neg (by omega), show Q.toNat = v by omega, hu]
          simp [ByteArray.data_append])
        have HL := Lib.hid h0
        clear h0 h1 hdv hu hQv hP hQ bp HD HT HS HR
        go_enter Tryd.func15, Tryd.ntmps15
        go_wp2_with (first | (go_at_call 13; ((with_reducible refine (CV.out _).mono ?_)); rintro e w2 ⟨rfl, hb2⟩; replace T0 := Lib.hid (T0.out.below hb2); clear hb2; obtain ⟨c0, c1, f0, f1⟩ := cells_of T0.out.b0) | (go_at_call 34; ((with_reducible refine (CU.out _).mono ?_)); rintro e w2 ⟨rfl, hb2⟩; replace T0 := Lib.hid (T0.out.below hb2); clear hb2; obtain ⟨c0, c1, f0, f1⟩ := cells_of T0.out.b0) | (go_at_call 34; ((with_reducible refine (CW.out _).mono ?_)); rintro e w2 ⟨rfl, hb2⟩; replace T0 := Lib.hid (T0.out.below hb2); clear hb2; obtain ⟨c0, c1, f0, f1⟩ := cells_of T0.out.b0) | (go_at_call 35; ((with_reducible refine (CD.out _).mono ?_)); rintro e w2 ⟨rfl, hb2⟩; replace T0 := Lib.hid (T0.out.below hb2); clear hb2; obtain ⟨c0, c1, f0, f1⟩ := cells_of T0.out.b0))
        all_goals first
          | (exfalso; have := HL.out; omega)
          | (go_ret; refine ⟨?_, T0.out.bl⟩; rw [HX.out]; rfl)
      · have hdv : ¬ 1 < d := by have := HD.out; split at this <;> omega
        have b2 : decide (1 < d) = false := by simpa using hdv
        have HX := Lib.hid (show (⟨(Rt.txt P Q).toArray⟩ : ByteArray) = (⟨#[45]⟩ ++ s) by
          apply ByteArray.ext
          rw [HT.out, if_neg h1, ← HS.out]
          unfold Lib.itoa
          rw [if_pos h0, hu]
          simp [ByteArray.data_append])
        have HL := Lib.hid h0
        clear h0 h1 hdv hu hQv hP hQ bp HD HT HS HR
        go_enter Tryd.func15, Tryd.ntmps15
        go_wp2_with (first | (go_at_call 13; ((with_reducible refine (CV.out _).mono ?_)); rintro e w2 ⟨rfl, hb2⟩; replace T0 := Lib.hid (T0.out.below hb2); clear hb2; obtain ⟨c0, c1, f0, f1⟩ := cells_of T0.out.b0) | (go_at_call 34; ((with_reducible refine (CU.out _).mono ?_)); rintro e w2 ⟨rfl, hb2⟩; replace T0 := Lib.hid (T0.out.below hb2); clear hb2; obtain ⟨c0, c1, f0, f1⟩ := cells_of T0.out.b0) | (go_at_call 34; ((with_reducible refine (CW.out _).mono ?_)); rintro e w2 ⟨rfl, hb2⟩; replace T0 := Lib.hid (T0.out.below hb2); clear hb2; obtain ⟨c0, c1, f0, f1⟩ := cells_of T0.out.b0) | (go_at_call 35; ((with_reducible refine (CD.out _).mono ?_)); rintro e w2 ⟨rfl, hb2⟩; replace T0 := Lib.hid (T0.out.below hb2); clear hb2; obtain ⟨c0, c1, f0, f1⟩ := cells_of T0.out.b0))
        all_goals first
          | (exfalso; have := HL.out; omega)
          | (go_ret; refine ⟨?_, T0.out.bl⟩; rw [HX.out]; rfl)
    · have b1 : decide (P < 0) = false := by simpa using h0
      have hPu : P = (u : Int) := by omega
      have cu2 := CU.out
      rw [← hPu] at cu2
      replace CU := Lib.hid cu2
      clear cu2 hPu
      obtain ⟨N, hN⟩ : ∃ N, -P = N := ⟨_, rfl⟩
      have wN : IntKind.i64.wrap N = N := wrapI (by unfold inI; omega)
      by_cases h1 : 1 < Q
      · have hdv : 1 < d := by have := HD.out; split at this <;> omega
        have b2 : decide (1 < d) = true := by simpa using hdv
        have HX := Lib.hid (show (⟨(Rt.txt P Q).toArray⟩ : ByteArray) = s ++ ⟨#[47]⟩ ++ r by
          apply ByteArray.ext
          rw [HT.out, if_pos h1, ← HS.out, ← HR.out]
          unfold Lib.itoa
          rw [if_neg h0, if_neg (by omega), show Q.toNat = v by omega, show P.toNat = u by omega]
          simp [ByteArray.data_append])
        have HL := Lib.hid h0
        clear h0 h1 hdv hu hQv hP hQ bp HD HT HS HR
        go_enter Tryd.func15, Tryd.ntmps15
        go_wp2_with (first | (go_at_call 13; ((with_reducible refine (CV.out _).mono ?_)); rintro e w2 ⟨rfl, hb2⟩; replace T0 := Lib.hid (T0.out.below hb2); clear hb2; obtain ⟨c0, c1, f0, f1⟩ := cells_of T0.out.b0) | (go_at_call 34; ((with_reducible refine (CU.out _).mono ?_)); rintro e w2 ⟨rfl, hb2⟩; replace T0 := Lib.hid (T0.out.below hb2); clear hb2; obtain ⟨c0, c1, f0, f1⟩ := cells_of T0.out.b0) | (go_at_call 34; ((with_reducible refine (CW.out _).mono ?_)); rintro e w2 ⟨rfl, hb2⟩; replace T0 := Lib.hid (T0.out.below hb2); clear hb2; obtain ⟨c0, c1, f0, f1⟩ := cells_of T0.out.b0) | (go_at_call 35; ((with_reducible refine (CD.out _).mono ?_)); rintro e w2 ⟨rfl, hb2⟩; replace T0 := Lib.hid (T0.out.below hb2); clear hb2; obtain ⟨c0, c1, f0, f1⟩ := cells_of T0.out.b0))
        all_goals first
          | (exfalso; have := HL.out; omega)
          | (go_ret; refine ⟨?_, T0.out.bl⟩; rw [HX.out]; rfl)
      · have hdv : ¬ 1 < d := by have := HD.out; split at this <;> omega
        have b2 : decide (1 < d) = false := by simpa using hdv
        have HX := Lib.hid (show (⟨(Rt.txt P Q).toArray⟩ : ByteArray) = s by
          apply ByteArray.ext
          rw [HT.out, if_neg h1, ← HS.out]
          unfold Lib.itoa
          rw [if_neg h0, show P.toNat = u by omega]
          simp [ByteArray.data_append])
        have HL := Lib.hid h0
        clear h0 h1 hdv hu hQv hP hQ bp HD HT HS HR
        go_enter Tryd.func15, Tryd.ntmps15
        go_wp2_with (first | (go_at_call 13; ((with_reducible refine (CV.out _).mono ?_)); rintro e w2 ⟨rfl, hb2⟩; replace T0 := Lib.hid (T0.out.below hb2); clear hb2; obtain ⟨c0, c1, f0, f1⟩ := cells_of T0.out.b0) | (go_at_call 34; ((with_reducible refine (CU.out _).mono ?_)); rintro e w2 ⟨rfl, hb2⟩; replace T0 := Lib.hid (T0.out.below hb2); clear hb2; obtain ⟨c0, c1, f0, f1⟩ := cells_of T0.out.b0) | (go_at_call 34; ((with_reducible refine (CW.out _).mono ?_)); rintro e w2 ⟨rfl, hb2⟩; replace T0 := Lib.hid (T0.out.below hb2); clear hb2; obtain ⟨c0, c1, f0, f1⟩ := cells_of T0.out.b0) | (go_at_call 35; ((with_reducible refine (CD.out _).mono ?_)); rintro e w2 ⟨rfl, hb2⟩; replace T0 := Lib.hid (T0.out.below hb2); clear hb2; obtain ⟨c0, c1, f0, f1⟩ := cells_of T0.out.b0))
        all_goals first
          | (exfalso; have := HL.out; omega)
          | (go_ret; refine ⟨?_, T0.out.bl⟩; rw [HX.out]; rfl)
end Go.Proofs.YtknnbejhfhadnaaDoor
