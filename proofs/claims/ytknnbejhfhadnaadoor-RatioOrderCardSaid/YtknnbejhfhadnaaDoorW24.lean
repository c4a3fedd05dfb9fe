/- Parse: the walk (under way). -/
import Derived.Test.YtknnbejhfhadnaaDoorW23
namespace Go.Proofs.YtknnbejhfhadnaaDoor
open Go.RowKit Go.Sort
theorem atoi_ok {s : ByteArray} {p : Int} (w : World) (hs : s.size ≤ 281474976710656) (ht : TEnv w) (h : Lib.atoiAll s.data.toList = .ok p) :
    Calls Tryd.prog 37 #[.string s] w fun e w' => e = .returned (.tuple #[.int .i64 p, .nilIface]) ∧ Below w.heap.size w w' :=
  (atoi_any s w hs ht).mono fun e w' ⟨n, ev, he, hat, hb⟩ => by
    cases hat with
    | ok h' _ => rw [h] at h'; injection h' with h'; subst h'; exact ⟨he, hb⟩
    | bad N h' _ => exact absurd h (h' p)
theorem atoi_bad {s : ByteArray} (w : World) (hs : s.size ≤ 281474976710656) (ht : TEnv w) (h : ∀ p, Lib.atoiAll s.data.toList ≠ .ok p) :
    Calls Tryd.prog 37 #[.string s] w fun e w' => ∃ (n : Int) (N : Nat), e = .returned (.tuple #[.int .i64 n, .iface 71 (.pointer (some ⟨N, 0, none⟩))]) ∧ Below w.heap.size w w' :=
  (atoi_any s w hs ht).mono fun e w' ⟨n, ev, he, hat, hb⟩ => by
    cases hat with
    | ok h' _ => exact absurd h' (h _)
    | bad N h' _ => exact ⟨_, N, he, hb⟩
structure PB (p q : Int) (N : Nat) (w w' : World) : Prop where
  b2 : Blk w' w.heap.size 23 #[.int .i64 0, .int .i64 0]
  ba : Blk w' N 23 #[.int .i64 p, .int .i64 q]
  hN : w.heap.size < N
  bl : Below w.heap.size w w'
  env : TEnv w'
theorem PB.below {p q : Int} {N : Nat} {w w' w'' : World} (h : PB p q N w w') (hb : Below w'.heap.size w' w'') : PB p q N w w'' :=
  ⟨h.b2.below hb h.b2.lt, h.ba.below hb h.ba.lt, h.hN, h.bl.trans (hb.mono (by have := h.b2.lt; omega)), h.env.below hb h.env.sz⟩
theorem PB.drew {p q : Int} {N : Nat} {w w' : World} (h : PB p q N w w') : PB p q N w w'.drew := h.below ⟨rfl, rfl, rfl, Nat.le_refl _, fun _ _ => rfl⟩
theorem pb0 {w w' : World} (p q : Int) (h : ResT w w') : PB p q w'.heap.size w (w'.alloc (.cells #[.int .i64 p, .int .i64 q] 23)) where
  b2 := h.b2.alloc _
  ba := Blk.new _ _ _
  hN := h.b2.lt
  bl := h.bl.alloc (Nat.le_of_lt h.b2.lt) _
  env := h.env.below ((Below.refl _ _).alloc (Nat.le_refl _) _) h.env.sz
/-- The result is laid. -/
theorem PB.res {p q : Int} {N : Nat} {w w' : World} (h : PB p q N w w') (a b : Int) : Blk ((w'.setCell ⟨w.heap.size, 0, none⟩ (.int .i64 a)).setCell ⟨w.heap.size, 1, none⟩ (.int .i64 b)) w.heap.size 23 #[.int .i64 a, .int .i64 b] ∧
    Below w.heap.size w ((w'.setCell ⟨w.heap.size, 0, none⟩ (.int .i64 a)).setCell ⟨w.heap.size, 1, none⟩ (.int .i64 b)) :=
  ⟨set2 h.b2 _ _, (h.bl.setCell (p := ⟨w.heap.size, 0, none⟩) (Nat.le_refl _) _).setCell (p := ⟨w.heap.size, 1, none⟩) (Nat.le_refl _) _⟩
theorem str_inj {a b : ByteArray} (h : a.toList = b.toList) : a = b := by
  rw [ByteArray.toList_eq, ByteArray.toList_eq] at h
  exact ByteArray.ext (Array.toList_inj.1 h)
set_option maxHeartbeats 4000000 in
theorem parse_bad1 (s f g g' : ByteArray) (b : Bool) (w : World) (ht : TEnv w) (hg' : (if b then g else ⟨#[49]⟩) = g')
    (CC : Hid (∀ w, TEnv w → Calls Tryd.prog 36 #[.string s, .string ⟨#[47]⟩] w fun e w' => e = .returned (.tuple #[.string f, .string g, .bool b]) ∧ Below w.heap.size w w'))
    (C1 : Hid (∀ w, TEnv w → Calls Tryd.prog 37 #[.string f] w fun e w' => (∃ (p' : Int) (N : Nat), e = .returned (.tuple #[.int .i64 p', .iface 71 (.pointer (some ⟨N, 0, none⟩))])) ∧ Below w.heap.size w w'))
    (C2 : Hid (∀ w, TEnv w → Calls Tryd.prog 37 #[.string g'] w fun e w' => (∃ (q : Int) (v : Value), e = .returned (.tuple #[.int .i64 q, v])) ∧ Below w.heap.size w w')) :
    Calls Tryd.prog 20 #[.string s] w fun e w' => TupIs (0, 0, 2) e ∧ Below w.heap.size w w' := by
  have T0 := Lib.hid (resT0 w ht)
  clear ht
  cases b
  all_goals
    simp only [if_true, Bool.false_eq_true, if_false] at hg'
    subst hg'
    go_enter Tryd.func20, Tryd.ntmps20
    go_wp2_with (first | (go_at_call 36; ((with_reducible refine (CC.out _ T0.out.env).mono ?_)); rintro e w2 ⟨rfl, hb2⟩; replace T0 := Lib.hid (T0.out.below hb2); clear hb2) | (go_at_call 37; ((with_reducible refine (C1.out _ T0.out.env).mono ?_)); rintro e w2 ⟨⟨p', N, rfl⟩, hb2⟩; replace T0 := Lib.hid (T0.out.below hb2); clear hb2) | (go_at_call 37; ((with_reducible refine (C2.out _ T0.out.env).mono ?_)); rintro e w2 ⟨⟨q, v, rfl⟩, hb2⟩; replace T0 := Lib.hid (T0.out.below hb2); clear hb2; have P0 := Lib.hid (pb0 p' q T0.out); obtain ⟨c0, c1, f0, f1⟩ := cells_of P0.out.ba; obtain ⟨c2, c3, f2, f3⟩ := cells_of P0.out.b2))
    obtain ⟨k1, k2⟩ := P0.out.res 0 0
    exact fin2 rfl rfl rfl rfl k1 ⟨TupIs.mk rfl, k2⟩
set_option maxHeartbeats 4000000 in
theorem parse_bad2 (s f g g' : ByteArray) (b : Bool) (p : Int) (w : World) (ht : TEnv w) (hg' : (if b then g else ⟨#[49]⟩) = g')
    (CC : Hid (∀ w, TEnv w → Calls Tryd.prog 36 #[.string s, .string ⟨#[47]⟩] w fun e w' => e = .returned (.tuple #[.string f, .string g, .bool b]) ∧ Below w.heap.size w w'))
    (C1 : Hid (∀ w, TEnv w → Calls Tryd.prog 37 #[.string f] w fun e w' => e = .returned (.tuple #[.int .i64 p, .nilIface]) ∧ Below w.heap.size w w'))
    (C2 : Hid (∀ w, TEnv w → Calls Tryd.prog 37 #[.string g'] w fun e w' => (∃ (q : Int) (N : Nat), e = .returned (.tuple #[.int .i64 q, .iface 71 (.pointer (some ⟨N, 0, none⟩))])) ∧ Below w.heap.size w w')) :
    Calls Tryd.prog 20 #[.string s] w fun e w' => TupIs (0, 0, 2) e ∧ Below w.heap.size w w' := by
  have T0 := Lib.hid (resT0 w ht)
  clear ht
  cases b
  all_goals
    simp only [if_true, Bool.false_eq_true, if_false] at hg'
    subst hg'
    go_enter Tryd.func20, Tryd.ntmps20
    go_wp2_with (first | (go_at_call 36; ((with_reducible refine (CC.out _ T0.out.env).mono ?_)); rintro e w2 ⟨rfl, hb2⟩; replace T0 := Lib.hid (T0.out.below hb2); clear hb2) | (go_at_call 37; ((with_reducible refine (C1.out _ T0.out.env).mono ?_)); rintro e w2 ⟨rfl, hb2⟩; replace T0 := Lib.hid (T0.out.below hb2); clear hb2) | (go_at_call 37; ((with_reducible refine (C2.out _ T0.out.env).mono ?_)); rintro e w2 ⟨⟨q, N, rfl⟩, hb2⟩; replace T0 := Lib.hid (T0.out.below hb2); clear hb2; have P0 := Lib.hid (pb0 p q T0.out); obtain ⟨c0, c1, f0, f1⟩ := cells_of P0.out.ba; obtain ⟨c2, c3, f2, f3⟩ := cells_of P0.out.b2))
    obtain ⟨k1, k2⟩ := P0.out.res 0 0
    exact fin2 rfl rfl rfl rfl k1 ⟨TupIs.mk rfl, k2⟩
set_option maxHeartbeats 4000000 in
theorem parse_any (s : ByteArray) (w : World) (hs : s.size ≤ 40) (ht : TEnv w) : Calls Tryd.prog 20 #[.string s] w fun e w' => TupIs (Rt.par s.data.toList) e ∧ Below w.heap.size w w' := by
  obtain ⟨m, hm⟩ := ht.mx
  have T0 := Lib.hid (resT0 w ht)
  have hcut := Rt.cut_is s.data.toList
  have hlen := cut_len s.data.toList [47]
  obtain ⟨f, hf⟩ : ∃ f : ByteArray, (⟨(Lib.cut s.data.toList [47]).1.toArray⟩ : ByteArray) = f := ⟨_, rfl⟩
  obtain ⟨g, hg⟩ : ∃ g : ByteArray, (⟨(Lib.cut s.data.toList [47]).2.1.toArray⟩ : ByteArray) = g := ⟨_, rfl⟩
  obtain ⟨b, hb⟩ : ∃ b, (Lib.cut s.data.toList [47]).2.2 = b := ⟨_, rfl⟩
  have cc := fun w (h : TEnv w) => (h.mx.elim fun m hm => cut_any s m w (by omega) hm hf hg hb)
  have CC := Lib.hid cc
  obtain ⟨g', hg'⟩ : ∃ g' : ByteArray, (if b then g else ⟨#[49]⟩) = g' := ⟨_, rfl⟩
  have f1 : f.data.toList = Rt.cutF s.data.toList := by rw [← hf]; exact hcut.1
  have g1 : g'.data.toList = Rt.cutS s.data.toList := by
    rw [← hg', ← hcut.2, hb]
    cases b
    · rfl
    · rw [← hg]; rfl
  have f2 : f.size ≤ 40 := by rw [← hf]; have : s.data.toList.length = s.size := Array.length_toList; simp only [ByteArray.size]; simp; omega
  have g2 : g'.size ≤ 40 := by
    rw [← hg']
    cases b
    · show (⟨#[49]⟩ : ByteArray).size ≤ 40; decide
    · show g.size ≤ 40
      rw [← hg]; have : s.data.toList.length = s.size := Array.length_toList; simp only [ByteArray.size]; simp; omega
  have hpb : ∀ p, Lib.atoiAll f.data.toList = .ok p → inI p := fun p h => Lib.atoiAll_bounds h
  have hqb : ∀ q, Lib.atoiAll g'.data.toList = .ok q → inI q := fun p h => Lib.atoiAll_bounds h
  cases hA : Lib.atoiAll f.data.toList
  case ok p =>
    cases hB : Lib.atoiAll g'.data.toList
    case ok q =>
      have CA := Lib.hid (fun w (h : TEnv w) => atoi_ok (s := f) w (by omega) h hA)
      have CB := Lib.hid (fun w (h : TEnv w) => atoi_ok (s := g') w (by omega) h hB)
      have ct := fun w (h : TEnv w) => text_any p q w (hpb p hA) (hqb q hB) h
      have hne : s.data.toList ≠ [] := by
        intro h0
        rw [f1, h0] at hA
        have e0 : Lib.atoiAll (Rt.cutF []) = .syntax := by decide
        rw [e0] at hA; cases hA
      have hpar := Rt.par_two (by rw [← f1]; exact hA) (by rw [← g1]; exact hB) hne
      obtain ⟨t, htx⟩ : ∃ t : ByteArray, (⟨(Rt.txt p q).toArray⟩ : ByteArray) = t := ⟨_, rfl⟩
      rw [htx] at ct
      have CT := Lib.hid ct
      clear ct cc hcut hlen f1 g1 hpb hqb hA hB hne hm ht
      have P := 0
      by_cases hq0 : q = 0
      · have b1 : (q == 0) = true := by simpa using hq0
        have HP := Lib.hid hpar
        clear hq0 hpar
        cases b
        all_goals
          simp only [if_true, Bool.false_eq_true, if_false] at hg'
          subst hg'
          go_enter Tryd.func20, Tryd.ntmps20
          go_wp2_with (first | (go_at_call 36; ((with_reducible refine (CC.out _ T0.out.env).mono ?_)); rintro e w2 ⟨rfl, hb2⟩; replace T0 := Lib.hid (T0.out.below hb2); clear hb2) | (go_at_call 37; ((with_reducible refine (CA.out _ T0.out.env).mono ?_)); rintro e w2 ⟨rfl, hb2⟩; replace T0 := Lib.hid (T0.out.below hb2); clear hb2) | (go_at_call 37; ((with_reducible refine (CB.out _ T0.out.env).mono ?_)); rintro e w2 ⟨rfl, hb2⟩; replace T0 := Lib.hid (T0.out.below hb2); clear hb2; have P0 := Lib.hid (pb0 p q T0.out); obtain ⟨c0, c1, f0, f1⟩ := cells_of P0.out.ba; obtain ⟨c2, c3, f2, f3⟩ := cells_of P0.out.b2))
          obtain ⟨k1, k2⟩ := P0.out.res 0 0
          exact fin2 rfl rfl rfl rfl k1 ⟨TupIs.mk (by rw [HP.out, b1]; rfl), k2⟩
      · have b1 : (q == 0) = false := by simpa using hq0
        have hts : (t = s) ↔ Rt.txt p q = s.data.toList := by
          rw [← htx]
          constructor
          · intro h; rw [← h]
          · intro h; rw [h]
        have CT2 : ∀ w, TEnv w → Calls Tryd.prog 23 #[.agg #[.int .i64 p, .int .i64 q]] w fun e w' => e = .returned (.string t) ∧ Below w.heap.size w w' := CT.out
        by_cases hs2 : t = s
        · have HP := Lib.hid (show Rt.par s.data.toList = (p, q, 0) by rw [hpar, b1]; simp [hts.1 hs2])
          rw [hs2] at CT2
          have CT3 := Lib.hid CT2
          clear hq0 hpar hts hs2 CT2 htx CT
          cases b
          all_goals
            simp only [if_true, Bool.false_eq_true, if_false] at hg'
            subst hg'
            go_enter Tryd.func20, Tryd.ntmps20
            go_wp2_with (first | (go_at_call 36; ((with_reducible refine (CC.out _ T0.out.env).mono ?_)); rintro e w2 ⟨rfl, hb2⟩; replace T0 := Lib.hid (T0.out.below hb2); clear hb2) | (go_at_call 37; ((with_reducible refine (CA.out _ T0.out.env).mono ?_)); rintro e w2 ⟨rfl, hb2⟩; replace T0 := Lib.hid (T0.out.below hb2); clear hb2) | (go_at_call 37; ((with_reducible refine (CB.out _ T0.out.env).mono ?_)); rintro e w2 ⟨rfl, hb2⟩; replace T0 := Lib.hid (T0.out.below hb2); clear hb2; have P0 := Lib.hid (pb0 p q T0.out); obtain ⟨c0, c1, f0, f1⟩ := cells_of P0.out.ba; obtain ⟨c2, c3, f2, f3⟩ := cells_of P0.out.b2) | (go_at_call 23; ((with_reducible refine (CT3.out _ P0.out.env).mono ?_)); rintro e w2 ⟨rfl, hb2⟩; replace P0 := Lib.hid (P0.out.below hb2); obtain ⟨c0, c1, f0, f1⟩ := cells_of P0.out.ba; obtain ⟨c2, c3, f2, f3⟩ := cells_of P0.out.b2))
            obtain ⟨k1, k2⟩ := P0.out.res p q
            exact fin2 rfl rfl rfl rfl k1 ⟨TupIs.mk HP.out, k2⟩
        · have b2 : (t.toList == s.toList) = false := by
            cases h : (t.toList == s.toList) with
            | false => rfl
            | true =>
              have e : t.toList = s.toList := by simpa using h
              exact absurd (str_inj e) hs2
          have HP := Lib.hid (show Rt.par s.data.toList = (0, 0, 2) by
            rw [hpar, b1]
            have : ¬ Rt.txt p q = s.data.toList := fun h => hs2 (hts.2 h)
            simp [this])
          have CT3 := Lib.hid CT2
          clear hq0 hpar hts hs2 CT2 htx CT
          cases b
          all_goals
            simp only [if_true, Bool.false_eq_true, if_false] at hg'
            subst hg'
            go_enter Tryd.func20, Tryd.ntmps20
            go_wp2_with (first | (go_at_call 36; ((with_reducible refine (CC.out _ T0.out.env).mono ?_)); rintro e w2 ⟨rfl, hb2⟩; replace T0 := Lib.hid (T0.out.below hb2); clear hb2) | (go_at_call 37; ((with_reducible refine (CA.out _ T0.out.env).mono ?_)); rintro e w2 ⟨rfl, hb2⟩; replace T0 := Lib.hid (T0.out.below hb2); clear hb2) | (go_at_call 37; ((with_reducible refine (CB.out _ T0.out.env).mono ?_)); rintro e w2 ⟨rfl, hb2⟩; replace T0 := Lib.hid (T0.out.below hb2); clear hb2; have P0 := Lib.hid (pb0 p q T0.out); obtain ⟨c0, c1, f0, f1⟩ := cells_of P0.out.ba; obtain ⟨c2, c3, f2, f3⟩ := cells_of P0.out.b2) | (go_at_call 23; ((with_reducible refine (CT3.out _ P0.out.env).mono ?_)); rintro e w2 ⟨rfl, hb2⟩; replace P0 := Lib.hid (P0.out.below hb2); obtain ⟨c0, c1, f0, f1⟩ := cells_of P0.out.ba; obtain ⟨c2, c3, f2, f3⟩ := cells_of P0.out.b2))
            obtain ⟨k1, k2⟩ := P0.out.res 0 0
            exact fin2 rfl rfl rfl rfl k1 ⟨TupIs.mk HP.out, k2⟩
    all_goals
      have CA := Lib.hid (fun w (h : TEnv w) => atoi_ok (s := f) w (by omega) h hA)
      have hB2 : ∀ q, Lib.atoiAll g'.data.toList ≠ .ok q := fun q h => by rw [hB] at h; cases h
      have CB := Lib.hid (fun w (h : TEnv w) => (atoi_bad (s := g') w (by omega) h hB2).mono fun e w' ⟨n, N, h1, h2⟩ => And.intro (Exists.intro n (Exists.intro N h1)) h2)
      rw [Rt.par_bad (.inr (by rw [← g1]; exact hB2))]
      exact parse_bad2 s f g g' b p w ht hg' CC CA CB
  all_goals
    have hA2 : ∀ q, Lib.atoiAll f.data.toList ≠ .ok q := fun q h => by rw [hA] at h; cases h
    have CA := Lib.hid (fun w (h : TEnv w) => (atoi_bad (s := f) w (by omega) h hA2).mono fun e w' ⟨n, N, h1, h2⟩ => And.intro (Exists.intro n (Exists.intro N h1)) h2)
    have CB := Lib.hid (fun w (h : TEnv w) => (atoi_any g' w (by omega) h).mono fun e w' ⟨n, ev, he, _, hb⟩ => And.intro (Exists.intro n (Exists.intro ev he)) hb)
    rw [Rt.par_bad (.inl (by rw [← f1]; exact hA2))]
    exact parse_bad1 s f g g' b w ht hg' CC CA CB
end Go.Proofs.YtknnbejhfhadnaaDoor
