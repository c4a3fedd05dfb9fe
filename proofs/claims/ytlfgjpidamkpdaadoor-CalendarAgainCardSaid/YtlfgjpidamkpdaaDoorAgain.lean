/- The statement CalendarAgain: the walk. -/
import Derived.Test.YtlfgjpidamkpdaaDoorWork
import Derived.Test.YtlfgjpidamkpdaaDoorPlain5
namespace Go.Proofs.YtlfgjpidamkpdaaDoor
open Go.RowKit
theorem work_v {A : Option Addr} {n c B : Nat} {L : List Int} {day num V E : Int} (w : World) (h1 : -9223372036854775808 ≤ day) (h2 : day ≤ 9223372036854775807) (h3 : -2000 ≤ num) (h4 : num ≤ 2000) (hi : Ints w B A n L) (hn : n ≤ 1000) (h : Hid (work day num L = (V, E))) :
    Calls Tryd.prog 32 #[.int .i64 day, .int .i64 num, .slice A n c] w fun e w' => e = .returned (.tuple #[.int .i64 V, .int .i64 E]) ∧ w = w' := by
  have := work_any A n c B L day num w hi hn h1 h2
  rw [h.out] at this
  exact this
theorem working_v {A : Option Addr} {n c B : Nat} {L : List Int} {day : Int} {b : Bool} (w : World) (hi : Ints w B A n L) (hn : n ≤ 1000) (h1 : -9223372036854775808 ≤ day) (h2 : day ≤ 9223372036854775807) (h : Hid (workB L day = b)) :
    Calls Tryd.prog 35 #[.int .i64 day, .slice A n c] w fun e w' => e = .returned (.bool b) ∧ w = w' := by
  rw [← h.out]; exact working_any A n c B L day w hi hn h1 h2
def AgainIs (day P Q : Int) (L : List Int) : Prop :=
  (∃ x y : Int, work day P L = (x, 5) ∧ work day (P + Q) L = (y, 5)) ∨ (∃ x y : Int, work day P L = (x, 0) ∧ work day (P + Q) L = (y, 5)) ∨
  ∃ x y : Int, work day P L = (x, 0) ∧ work day (P + Q) L = (y, 0) ∧ work x Q L = (y, 0) ∧ workB L x = true ∧ Cal.wd y ≤ 4 ∧ Cal.known x ∧ Cal.known y ∧ (workB L day = true → work x (-P) L = (day, 0)) ∧ ∃ u v : Int, work x (-P) L = (u, v)
theorem againIs (day st P Q : Int) (L : List Int) (hs : st = 1 ∨ st = -1) (hp : 1 ≤ P) (hp2 : P ≤ 30) (hq : 1 ≤ Q) (hq2 : Q ≤ 30) (hL : L.length ≤ 30) (hd : Cal.known day) : AgainIs day (st * P) (st * Q) L := by
  have h := again day st P.toNat Q.toNat L hs (by omega) (by omega) (by omega) (by omega) (by omega) hd
  rw [show ((P.toNat : Nat) : Int) = P by omega, show ((Q.toNat : Nat) : Int) = Q by omega] at h
  rcases h with ⟨a, b⟩ | ⟨a, b⟩ | ⟨x, y, a, b, c, d, e, f, g, i⟩
  · exact .inl ⟨_, _, Prod.ext rfl a, Prod.ext rfl b⟩
  · exact .inr (.inl ⟨_, _, Prod.ext rfl a, Prod.ext rfl b⟩)
  · refine .inr (.inr ⟨x, y, a, b, c, d, ?_, f, g, i, _, _, rfl⟩)
    unfold workB wdB at e
    simp only [Bool.and_eq_true, decide_eq_true_eq] at e
    exact e.2
set_option maxRecDepth 10000 in
set_option maxHeartbeats 8000000 in
theorem again_x (n a b : Int) (A : Option Addr) (nl c : Nat) (l : List Int) (w : World) (ht : TEnv w) (hl : Ints w w.heap.size A nl l) (hA : AllI l) (hc : nl ≤ 9223372036854775807) (hn : inI n) (ha : inI a) (hb0 : inI b) :
    Calls Tryd.prog 9 #[.int .i64 n, .int .i64 a, .int .i64 b, .slice A nl c] w fun e w' => e = .returned (.bool true) ∧ Below w.heap.size w w' := by
  obtain ⟨n1, n2⟩ := hn; obtain ⟨k1, k2⟩ := ha; obtain ⟨m1, m2⟩ := hb0
  have hb := Below.refl w.heap.size w
  have hsz := ht.sz
  have s0 := som_known n
  have hdk := Lib.hid s0
  obtain ⟨s1, s2⟩ := s0
  go_enter Tryd.func9, Tryd.ntmps9
  go_wp2_with (go_at_call 10; refine (some_any _ _ (by omega) (by omega)).mono ?_; rintro e w1 ⟨rfl, hb1⟩; have hb := hb.trans (hb1.mono hb.size); clear hb1)
  have hsb := hb.size
  go_loopw [10, 11] (fun v i wr => ∃ (j : Nat) (L : List Int), j ≤ nl ∧ j ≤ 30 ∧ L.length = j ∧ i = .int .i64 j ∧ wr.ownsRow w.heap.size 3 1 v L.length (intVals L) ∧ Below w.heap.size w wr) (fun _ i _ => 30 - (intOf i).toNat)
  case atStart => exact ⟨0, [], by omega, by omega, rfl, rfl, ⟨by simp [intVals], .inl ⟨rfl, rfl⟩⟩, hb⟩
  case round =>
    obtain ⟨j, L, hj1, hj2, hLj, rfl, hown, hb⟩ := hrel
    rw [hLj] at hown
    obtain ⟨AL, cl, rfl⟩ := own_form hown
    have HLj := Lib.hid hLj
    clear hLj
    have hsz2 := hb.size
    by_cases hlt : j < nl ∧ j < 30
    · obtain ⟨hlt1, hlt2⟩ := hlt
      have hp : (j : Int) < (nl : Int) := by omega
      have hp2 : (j : Int) < 30 := by omega
      obtain ⟨lb, lo, rfl, lc⟩ := ints_get (Reads.below hl hb) hlt1
      obtain ⟨x1, x2⟩ := hA.get (k := j) (by rw [hl.len]; exact hlt1)
      generalize l.getD j 0 = x at lc x1 x2
      have a1 := around_bd x 60 (by omega)
      have HI := Lib.hid (info_parts int_info)
      have HO := Lib.hid hown
      clear hown
      go_wp2_with (first
        | (go_at_call 17; refine (around_any _ _ _ (by omega) (by omega)).mono ?_; rintro e w2 ⟨rfl, rfl⟩)
        | (at_builtin
           go_loud (
             obtain ⟨i0, hi0, hi1, hi2, hi3⟩ := HI.out
             refine wpList_append_any _ rfl (.tmp 34) (.tmp 43) 23 rfl w.heap.size 3 i0 _ 1 8 Tryd.underlying23 hi0 hi1 hi2 hi3 rfl (by omega) (.slice AL j cl) j (intVals L) rfl
               (HO.out.alloc _) (wr.heap.size + 1) (some ⟨wr.heap.size, 0, none⟩) 1 1 [.int .i64 (som n + around x 60 - 30)] rfl (reads_lit wr 3 _) (by simp [Value.oneCell']) (by unfold maxLen; omega) (by omega) (by simp only [World.size_alloc]; omega) ?_
             intro v3 w3 hown3 hg3 hat3
             have hb3 := (hb.alloc (by omega) (.cells #[.int .i64 (som n + around x 60 - 30)] 3)).grown hg3 (by simp only [World.size_alloc]; omega) (fun g he => (HO.out.lt g he).1)
             clear hi0 hi1 hi2 hi3 hat3 hg3)))
      go_roundw
      case rel => exact ⟨j + 1, L ++ [som n + around x 60 - 30], by omega, by omega, by simp [HLj.out], by go_num, by rw [intVals_append, List.length_append, HLj.out]; exact hown3, hb3⟩
      case measure => simp [intOf]; omega
    · have hL30 : j ≤ 30 := hj2
      have hI := own_ints hown
      have HI2 := Lib.hid hI
      have ht := ht.below hb hsz
      have a1 := around_bd a 30 (by omega)
      have a2 := around_bd b 30 (by omega)
      have hpos := againIs (som n) 1 (1 + around a 30) (1 + around b 30) L (.inl rfl) (by omega) (by omega) (by omega) (by omega) (by rw [HLj.out]; omega) hdk.out
      have hneg := againIs (som n) (-1) (1 + around a 30) (1 + around b 30) L (.inr rfl) (by omega) (by omega) (by omega) (by omega) (by rw [HLj.out]; omega) hdk.out
      simp only [Int.one_mul, Int.neg_mul] at hpos hneg
      have hp : (¬ (j : Int) < (nl : Int)) ∨ ((j : Int) < (nl : Int) ∧ ¬ (j : Int) < 30) := by omega
      clear hI hown hlt
      cases hsg : (a.tmod 2 == 1)
      · have hg := hpos
        clear hpos hneg
        rcases hg with ⟨x, y, g1, g2⟩ | ⟨x, y, g1, g2⟩ | ⟨x, y, g1, g2, g3, g4, g5, ⟨g6, g6'⟩, ⟨g7, g7'⟩, g8, u, v, g9⟩
        · have G1 := Lib.hid g1; have G2 := Lib.hid g2; clear g1 g2
          rcases hp with hp | ⟨hp, hp2⟩
          all_goals (go_wp2_with (first | (go_at_call 17; refine (around_any _ _ _ (by omega) (by omega)).mono ?_; rintro e w2 ⟨rfl, rfl⟩) | (go_at_call 32; refine (work_v _ (by omega) (by omega) (by omega) (by omega) HI2.out (by omega) (by assumption)).mono ?_; rintro e w2 ⟨rfl, rfl⟩) | (go_at_call 35; refine (working_v _ HI2.out (by omega) (by omega) (by omega) (by assumption)).mono ?_; rintro e w2 ⟨rfl, rfl⟩) | (go_at_call 13; refine (weekday_any _ _ (by omega) (by omega)).mono ?_; rintro e w2 ⟨rfl, rfl⟩) | (go_at_call 20; refine (lives_any _ ht).mono ?_; rintro e w2 ⟨rfl, hb2⟩; have hb := hb.trans (hb2.mono hb.size); clear hb2)); go_ret; exact ⟨rfl, hb⟩)
        · have G1 := Lib.hid g1; have G2 := Lib.hid g2; clear g1 g2
          rcases hp with hp | ⟨hp, hp2⟩
          all_goals (go_wp2_with (first | (go_at_call 17; refine (around_any _ _ _ (by omega) (by omega)).mono ?_; rintro e w2 ⟨rfl, rfl⟩) | (go_at_call 32; refine (work_v _ (by omega) (by omega) (by omega) (by omega) HI2.out (by omega) (by assumption)).mono ?_; rintro e w2 ⟨rfl, rfl⟩) | (go_at_call 35; refine (working_v _ HI2.out (by omega) (by omega) (by omega) (by assumption)).mono ?_; rintro e w2 ⟨rfl, rfl⟩) | (go_at_call 13; refine (weekday_any _ _ (by omega) (by omega)).mono ?_; rintro e w2 ⟨rfl, rfl⟩) | (go_at_call 20; refine (lives_any _ ht).mono ?_; rintro e w2 ⟨rfl, hb2⟩; have hb := hb.trans (hb2.mono hb.size); clear hb2)); go_ret; exact ⟨rfl, hb⟩)
        · have G1 := Lib.hid g1; have G2 := Lib.hid g2; have G3 := Lib.hid g3; have G4 := Lib.hid g4
          clear g1 g2 g3 g4
          cases hwb : workB L (som n)
          · have G5 := Lib.hid hwb; have G6 := Lib.hid g9
            clear hwb g8 g9
            rcases hp with hp | ⟨hp, hp2⟩
            all_goals (go_wp2_with (first | (go_at_call 17; refine (around_any _ _ _ (by omega) (by omega)).mono ?_; rintro e w2 ⟨rfl, rfl⟩) | (go_at_call 32; refine (work_v _ (by omega) (by omega) (by omega) (by omega) HI2.out (by omega) (by assumption)).mono ?_; rintro e w2 ⟨rfl, rfl⟩) | (go_at_call 35; refine (working_v _ HI2.out (by omega) (by omega) (by omega) (by assumption)).mono ?_; rintro e w2 ⟨rfl, rfl⟩) | (go_at_call 13; refine (weekday_any _ _ (by omega) (by omega)).mono ?_; rintro e w2 ⟨rfl, rfl⟩) | (go_at_call 20; refine (lives_any _ ht).mono ?_; rintro e w2 ⟨rfl, hb2⟩; have hb := hb.trans (hb2.mono hb.size); clear hb2)); go_ret; exact ⟨rfl, hb⟩)
          · have G6 := Lib.hid (g8 hwb); have G5 := Lib.hid hwb
            clear hwb g8 g9
            rcases hp with hp | ⟨hp, hp2⟩
            all_goals (go_wp2_with (first | (go_at_call 17; refine (around_any _ _ _ (by omega) (by omega)).mono ?_; rintro e w2 ⟨rfl, rfl⟩) | (go_at_call 32; refine (work_v _ (by omega) (by omega) (by omega) (by omega) HI2.out (by omega) (by assumption)).mono ?_; rintro e w2 ⟨rfl, rfl⟩) | (go_at_call 35; refine (working_v _ HI2.out (by omega) (by omega) (by omega) (by assumption)).mono ?_; rintro e w2 ⟨rfl, rfl⟩) | (go_at_call 13; refine (weekday_any _ _ (by omega) (by omega)).mono ?_; rintro e w2 ⟨rfl, rfl⟩) | (go_at_call 20; refine (lives_any _ ht).mono ?_; rintro e w2 ⟨rfl, hb2⟩; have hb := hb.trans (hb2.mono hb.size); clear hb2)); go_ret; exact ⟨rfl, hb⟩)
      · have hg := hneg
        clear hpos hneg
        rcases hg with ⟨x, y, g1, g2⟩ | ⟨x, y, g1, g2⟩ | ⟨x, y, g1, g2, g3, g4, g5, ⟨g6, g6'⟩, ⟨g7, g7'⟩, g8, u, v, g9⟩
        · have G1 := Lib.hid g1; have G2 := Lib.hid g2; clear g1 g2
          rcases hp with hp | ⟨hp, hp2⟩
          all_goals (go_wp2_with (first | (go_at_call 17; refine (around_any _ _ _ (by omega) (by omega)).mono ?_; rintro e w2 ⟨rfl, rfl⟩) | (go_at_call 32; refine (work_v _ (by omega) (by omega) (by omega) (by omega) HI2.out (by omega) (by assumption)).mono ?_; rintro e w2 ⟨rfl, rfl⟩) | (go_at_call 35; refine (working_v _ HI2.out (by omega) (by omega) (by omega) (by assumption)).mono ?_; rintro e w2 ⟨rfl, rfl⟩) | (go_at_call 13; refine (weekday_any _ _ (by omega) (by omega)).mono ?_; rintro e w2 ⟨rfl, rfl⟩) | (go_at_call 20; refine (lives_any _ ht).mono ?_; rintro e w2 ⟨rfl, hb2⟩; have hb := hb.trans (hb2.mono hb.size); clear hb2)); go_ret; exact ⟨rfl, hb⟩)
        · have G1 := Lib.hid g1; have G2 := Lib.hid g2; clear g1 g2
          rcases hp with hp | ⟨hp, hp2⟩
          all_goals (go_wp2_with (first | (go_at_call 17; refine (around_any _ _ _ (by omega) (by omega)).mono ?_; rintro e w2 ⟨rfl, rfl⟩) | (go_at_call 32; refine (work_v _ (by omega) (by omega) (by omega) (by omega) HI2.out (by omega) (by assumption)).mono ?_; rintro e w2 ⟨rfl, rfl⟩) | (go_at_call 35; refine (working_v _ HI2.out (by omega) (by omega) (by omega) (by assumption)).mono ?_; rintro e w2 ⟨rfl, rfl⟩) | (go_at_call 13; refine (weekday_any _ _ (by omega) (by omega)).mono ?_; rintro e w2 ⟨rfl, rfl⟩) | (go_at_call 20; refine (lives_any _ ht).mono ?_; rintro e w2 ⟨rfl, hb2⟩; have hb := hb.trans (hb2.mono hb.size); clear hb2)); go_ret; exact ⟨rfl, hb⟩)
        · simp only [Int.neg_neg] at g8 g9
          have G1 := Lib.hid g1; have G2 := Lib.hid g2; have G3 := Lib.hid g3; have G4 := Lib.hid g4
          clear g1 g2 g3 g4
          cases hwb : workB L (som n)
          · have G5 := Lib.hid hwb; have G6 := Lib.hid g9
            clear hwb g8 g9
            rcases hp with hp | ⟨hp, hp2⟩
            all_goals (go_wp2_with (first | (go_at_call 17; refine (around_any _ _ _ (by omega) (by omega)).mono ?_; rintro e w2 ⟨rfl, rfl⟩) | (go_at_call 32; refine (work_v _ (by omega) (by omega) (by omega) (by omega) HI2.out (by omega) (by assumption)).mono ?_; rintro e w2 ⟨rfl, rfl⟩) | (go_at_call 35; refine (working_v _ HI2.out (by omega) (by omega) (by omega) (by assumption)).mono ?_; rintro e w2 ⟨rfl, rfl⟩) | (go_at_call 13; refine (weekday_any _ _ (by omega) (by omega)).mono ?_; rintro e w2 ⟨rfl, rfl⟩) | (go_at_call 20; refine (lives_any _ ht).mono ?_; rintro e w2 ⟨rfl, hb2⟩; have hb := hb.trans (hb2.mono hb.size); clear hb2)); go_ret; exact ⟨rfl, hb⟩)
          · have G6 := Lib.hid (g8 hwb); have G5 := Lib.hid hwb
            clear hwb g8 g9
            rcases hp with hp | ⟨hp, hp2⟩
            all_goals (go_wp2_with (first | (go_at_call 17; refine (around_any _ _ _ (by omega) (by omega)).mono ?_; rintro e w2 ⟨rfl, rfl⟩) | (go_at_call 32; refine (work_v _ (by omega) (by omega) (by omega) (by omega) HI2.out (by omega) (by assumption)).mono ?_; rintro e w2 ⟨rfl, rfl⟩) | (go_at_call 35; refine (working_v _ HI2.out (by omega) (by omega) (by omega) (by assumption)).mono ?_; rintro e w2 ⟨rfl, rfl⟩) | (go_at_call 13; refine (weekday_any _ _ (by omega) (by omega)).mono ?_; rintro e w2 ⟨rfl, rfl⟩) | (go_at_call 20; refine (lives_any _ ht).mono ?_; rintro e w2 ⟨rfl, hb2⟩; have hb := hb.trans (hb2.mono hb.size); clear hb2)); go_ret; exact ⟨rfl, hb⟩)
end Go.Proofs.YtlfgjpidamkpdaaDoor
