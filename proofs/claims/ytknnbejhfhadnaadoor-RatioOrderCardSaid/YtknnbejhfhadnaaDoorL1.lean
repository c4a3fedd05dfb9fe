/- lives: the examples. -/
import Derived.Test.YtknnbejhfhadnaaDoorG2
namespace Go.Proofs.YtknnbejhfhadnaaDoor
open Go.RowKit Go.Sort
/-- What stands in a world: everything as before, and boxes of the call's own. -/
structure Hold (w w' : World) (L : List (Nat × TypeId × Array Value)) : Prop where
  bl : Below w.heap.size w w'
  bs : ∀ x ∈ L, w.heap.size ≤ x.1 ∧ Blk w' x.1 x.2.1 x.2.2
theorem hold0 (w : World) : Hold w w [] := ⟨Below.refl _ _, fun _ h => by cases h⟩
theorem Hold.below {w w' w'' : World} {L : List (Nat × TypeId × Array Value)} (h : Hold w w' L) (hb : Below w'.heap.size w' w'') : Hold w w'' L :=
  ⟨h.bl.trans (hb.mono h.bl.size), fun x hx => ⟨(h.bs x hx).1, (h.bs x hx).2.below hb (h.bs x hx).2.lt⟩⟩
theorem Hold.drew {w w' : World} {L : List (Nat × TypeId × Array Value)} (h : Hold w w' L) : Hold w w'.drew L := h.below ⟨rfl, rfl, rfl, Nat.le_refl _, fun _ _ => rfl⟩
theorem Hold.new {w w' : World} {L : List (Nat × TypeId × Array Value)} (h : Hold w w' L) (cs : Array Value) (t : TypeId) {N : Nat} (hN : w'.heap.size = N) : Hold w (w'.alloc (.cells cs t)) ((N, t, cs) :: L) := by
  subst hN
  refine ⟨h.bl.alloc h.bl.size _, fun x hx => ?_⟩
  rcases List.mem_cons.1 hx with rfl | hx
  · exact ⟨h.bl.size, Blk.new _ _ _⟩
  · exact ⟨(h.bs x hx).1, (h.bs x hx).2.alloc _⟩
theorem Hold.at1 {w w' : World} {N : Nat} {t : TypeId} {cs : Array Value} {L} (h : Hold w w' ((N, t, cs) :: L)) : Blk w' N t cs := (h.bs _ (.head _)).2
theorem Hold.tl {w w' : World} {x0 : Nat × TypeId × Array Value} {L} (h : Hold w w' (x0 :: L)) : Hold w w' L := ⟨h.bl, fun x hx => h.bs x (.tail _ hx)⟩
theorem v1 : Rt.mk 6 (-4) = (-3, 2, 0) := by decide +kernel
theorem v2 : Rt.add 1 6 1 10 = (4, 15, 0) := by decide +kernel
theorem v3 : Rt.mul 2 3 9 4 = (3, 2, 0) := by decide +kernel
theorem v4 : Rt.par (⟨#[50, 47, 52]⟩ : ByteArray).data.toList = (0, 0, 2) := by rw [Rt.ref_par]; decide +kernel
theorem v5 : Rt.par (⟨#[45, 48]⟩ : ByteArray).data.toList = (0, 0, 2) := by rw [Rt.ref_par]; decide +kernel
theorem v6 : Rt.add 2147483648 1 1 1 = (0, 0, 5) := by decide +kernel
theorem v7 : Rt.flr (-3) 2 = -2 := by decide +kernel
theorem v8 : Rt.flr 4 15 = 0 := by decide +kernel
theorem v9 : Rt.txt (-3) 2 = [45, 51, 47, 50] := by decide +kernel
theorem v10 : Rt.txt 8 1 = [56] := by decide +kernel
instance (x : Int) : Decidable (inI x) := inferInstanceAs (Decidable (_ ∧ _))
theorem tup_of {R : Int × Int × Int} {e : Ending} {a b c : Int} (h : R = (a, b, c)) (h1 : TupIs R e) : e = .returned (.tuple #[.agg #[.int .i64 a, .int .i64 b], .int .i64 c]) := by subst h; exact h1
theorem str_of {l m : List UInt8} {e : Ending} (h : l = m) (h1 : e = .returned (.string ⟨l.toArray⟩)) : e = .returned (.string ⟨m.toArray⟩) := by subst h; exact h1
theorem int_of {x y : Int} {e : Ending} (h : x = y) (h1 : e = .returned (.int .i64 x)) : e = .returned (.int .i64 y) := by subst h; exact h1
def TupP (a b c : Int) (w : World) (e : Ending) (w' : World) : Prop := e = .returned (.tuple #[.agg #[.int .i64 a, .int .i64 b], .int .i64 c]) ∧ Below w.heap.size w w'
theorem lk1 (w : World) : Calls Tryd.prog 10 #[.int .i64 6, .int .i64 (-4)] w (TupP (-3) 2 0 w) := (make_any 6 (-4) w (by decide) (by decide)).mono fun _ _ ⟨a, b⟩ => ⟨tup_of v1 a, b⟩
theorem lk2 (w : World) : Calls Tryd.prog 26 #[.agg #[.int .i64 1, .int .i64 6], .agg #[.int .i64 1, .int .i64 10]] w (TupP 4 15 0 w) := (add_any 1 6 1 10 w (by decide) (by decide) (by decide) (by decide)).mono fun _ _ ⟨a, b⟩ => ⟨tup_of v2 a, b⟩
theorem lk3 (w : World) : Calls Tryd.prog 27 #[.agg #[.int .i64 2, .int .i64 3], .agg #[.int .i64 9, .int .i64 4]] w (TupP 3 2 0 w) := (mul_any 2 3 9 4 w (by decide) (by decide) (by decide) (by decide)).mono fun _ _ ⟨a, b⟩ => ⟨tup_of v3 a, b⟩
theorem lk4 (w : World) (h : TEnv w) : Calls Tryd.prog 20 #[.string ⟨#[50, 47, 52]⟩] w (TupP 0 0 2 w) := (parse_any ⟨#[50, 47, 52]⟩ w (by decide) h).mono fun _ _ ⟨a, b⟩ => ⟨tup_of v4 a, b⟩
theorem lk5 (w : World) (h : TEnv w) : Calls Tryd.prog 20 #[.string ⟨#[45, 48]⟩] w (TupP 0 0 2 w) := (parse_any ⟨#[45, 48]⟩ w (by decide) h).mono fun _ _ ⟨a, b⟩ => ⟨tup_of v5 a, b⟩
theorem lk6 (w : World) : Calls Tryd.prog 26 #[.agg #[.int .i64 2147483648, .int .i64 1], .agg #[.int .i64 1, .int .i64 1]] w (TupP 0 0 5 w) := (add_any 2147483648 1 1 1 w (by decide) (by decide) (by decide) (by decide)).mono fun _ _ ⟨a, b⟩ => ⟨tup_of v6 a, b⟩
def IntP (x : Int) (w : World) (e : Ending) (w' : World) : Prop := e = .returned (.int .i64 x) ∧ Below w.heap.size w w'
def StrP (x : ByteArray) (w : World) (e : Ending) (w' : World) : Prop := e = .returned (.string x) ∧ Below w.heap.size w w'
theorem lk7 (w : World) : Calls Tryd.prog 29 #[.agg #[.int .i64 (-3), .int .i64 2]] w (IntP (-2) w) := (floor_any (-3) 2 w (by decide) (by decide)).mono fun _ _ ⟨a, b⟩ => ⟨int_of v7 a, b⟩
theorem lk8 (w : World) : Calls Tryd.prog 29 #[.agg #[.int .i64 4, .int .i64 15]] w (IntP 0 w) := (floor_any 4 15 w (by decide) (by decide)).mono fun _ _ ⟨a, b⟩ => ⟨int_of v8 a, b⟩
theorem lk9 (w : World) (h : TEnv w) : Calls Tryd.prog 23 #[.agg #[.int .i64 (-3), .int .i64 2]] w (StrP ⟨#[45, 51, 47, 50]⟩ w) := (text_any (-3) 2 w (by decide) (by decide) h).mono fun _ _ ⟨a, b⟩ => ⟨str_of v9 a, b⟩
theorem lk10 (w : World) (h : TEnv w) : Calls Tryd.prog 23 #[.agg #[.int .i64 8, .int .i64 1]] w (StrP ⟨#[56]⟩ w) := (text_any 8 1 w (by decide) (by decide) h).mono fun _ _ ⟨a, b⟩ => ⟨str_of v10 a, b⟩
set_option maxHeartbeats 4000000 in
theorem lives_any (w : World) (ht : TEnv w) : Calls Tryd.prog 14 #[] w fun e w' => e = .returned (.bool true) ∧ Below w.heap.size w w' := by
  have T0 := Lib.hid (hold0 w)
  have HE := Lib.hid ht
  have HZ := Lib.hid ht.sz
  clear ht
  go_enter Tryd.func14, Tryd.ntmps14
  go_wp2_with (first | (go_at_call 10; ((with_reducible refine (lk1 _).mono ?_)); rintro e w2 ⟨rfl, hb2⟩; replace T0 := Lib.hid (T0.out.below hb2); clear hb2; replace T0 := Lib.hid (T0.out.new #[.int .i64 (-3), .int .i64 (2)] 23 rfl)) | (go_at_call 26; ((with_reducible refine (lk2 _).mono ?_)); rintro e w2 ⟨rfl, hb2⟩; replace T0 := Lib.hid (T0.out.below hb2); clear hb2; replace T0 := Lib.hid (T0.out.new #[.int .i64 (4), .int .i64 (15)] 23 rfl)) | (go_at_call 27; ((with_reducible refine (lk3 _).mono ?_)); rintro e w2 ⟨rfl, hb2⟩; replace T0 := Lib.hid (T0.out.below hb2); clear hb2; replace T0 := Lib.hid (T0.out.new #[.int .i64 (3), .int .i64 (2)] 23 rfl)) | (go_at_call 20; ((with_reducible refine (lk4 _ (HE.out.below T0.out.bl HZ.out)).mono ?_)); rintro e w2 ⟨rfl, hb2⟩; replace T0 := Lib.hid (T0.out.below hb2); clear hb2; replace T0 := Lib.hid (T0.out.new #[.int .i64 (0), .int .i64 (0)] 23 rfl)) | (go_at_call 20; ((with_reducible refine (lk5 _ (HE.out.below T0.out.bl HZ.out)).mono ?_)); rintro e w2 ⟨rfl, hb2⟩; replace T0 := Lib.hid (T0.out.below hb2); clear hb2; replace T0 := Lib.hid (T0.out.new #[.int .i64 (0), .int .i64 (0)] 23 rfl)) | (go_at_call 26; ((with_reducible refine (lk6 _).mono ?_)); rintro e w2 ⟨rfl, hb2⟩; replace T0 := Lib.hid (T0.out.below hb2); clear hb2; replace T0 := Lib.hid (T0.out.new #[.int .i64 (0), .int .i64 (0)] 23 rfl); obtain ⟨c1, d1, _, _⟩ := cells_of T0.out.tl.tl.tl.tl.tl.at1; obtain ⟨c3, d3, _, _⟩ := cells_of T0.out.tl.tl.tl.tl.at1; obtain ⟨c5, d5, _, _⟩ := cells_of T0.out.tl.tl.tl.at1) | (go_at_call 29; ((with_reducible refine (lk7 _).mono ?_)); rintro e w2 ⟨rfl, hb2⟩; replace T0 := Lib.hid (T0.out.below hb2); clear hb2; obtain ⟨c1, d1, _, _⟩ := cells_of T0.out.tl.tl.tl.tl.tl.at1; obtain ⟨c3, d3, _, _⟩ := cells_of T0.out.tl.tl.tl.tl.at1) | (go_at_call 29; ((with_reducible refine (lk8 _).mono ?_)); rintro e w2 ⟨rfl, hb2⟩; replace T0 := Lib.hid (T0.out.below hb2); clear hb2; obtain ⟨c1, d1, _, _⟩ := cells_of T0.out.tl.tl.tl.tl.tl.at1) | (go_at_call 23; ((with_reducible refine (lk9 _ (HE.out.below T0.out.bl HZ.out)).mono ?_)); rintro e w2 ⟨rfl, hb2⟩; replace T0 := Lib.hid (T0.out.below hb2); clear hb2) | (go_at_call 23; ((with_reducible refine (lk10 _ (HE.out.below T0.out.bl HZ.out)).mono ?_)); rintro e w2 ⟨rfl, hb2⟩; replace T0 := Lib.hid (T0.out.below hb2); clear hb2))
  go_ret
  exact ⟨rfl, T0.out.bl⟩
end Go.Proofs.YtknnbejhfhadnaaDoor
