/- The makers of zones. -/
import Derived.Test.YtlfgjpidamkpdaaDoorW19
namespace Go.Proofs.YtlfgjpidamkpdaaDoor
open Go.RowKit
def atL (L : List Int) (i m : Int) : Int := if 0 ≤ i ∧ i < L.length then around (L.getD i.toNat 0) m else 0
theorem atL_bd (L : List Int) (i m : Int) (h : 1 ≤ m) : 0 ≤ atL L i m ∧ atL L i m < m := by
  unfold atL
  split
  · exact around_bd _ _ h
  · omega
def AllI (L : List Int) : Prop := ∀ x ∈ L, -9223372036854775808 ≤ x ∧ x ≤ 9223372036854775807
theorem AllI.get {L : List Int} (h : AllI L) {k : Nat} (hk : k < L.length) : -9223372036854775808 ≤ L.getD k 0 ∧ L.getD k 0 ≤ 9223372036854775807 := by
  rw [List.getD, List.getElem?_eq_getElem hk]; exact h _ (List.getElem_mem hk)
set_option maxHeartbeats 1000000 in
theorem at_any (A : Option Addr) (n c B : Nat) (L : List Int) (i : Nat) (m : Int) (w : World) (hi : Ints w B A n L) (hL : AllI L) (hn : n ≤ 9223372036854775807) (hb : i ≤ 1000) :
    Calls Tryd.prog 34 #[.slice A n c, .int .i64 i, .int .i64 m] w fun e w' => e = .returned (.int .i64 (atL L i m)) ∧ w = w' := by
  have hl := hi.len
  by_cases hlt : i < n
  · obtain ⟨b1, o1, rfl, _, c1⟩ := hi.form (by omega)
    have d1 := c1 i (by omega)
    obtain ⟨q1, q2⟩ := hL.get (k := i) (by omega)
    have HV : Hid (atL L i m = around (L.getD i 0) m) := by unfold Hid atL; rw [if_pos ⟨by omega, by omega⟩]; simp
    generalize L.getD i 0 = x at d1 q1 q2 HV
    clear c1 hi hL
    go_enter Tryd.func34, Tryd.ntmps34
    go_wp2_with (go_at_call 17; refine (around_any _ _ _ (by omega) (by omega)).mono ?_; rintro e w' ⟨rfl, rfl⟩)
    go_ret
    exact ⟨ret_int HV.out.symm, rfl⟩
  · have HV : Hid (atL L i m = 0) := by unfold Hid atL; rw [if_neg (by omega)]
    clear hi hL
    go_enter Tryd.func34, Tryd.ntmps34
    go_wp2_with fail
    go_ret
    exact ⟨ret_int HV.out.symm, rfl⟩
set_option maxHeartbeats 1000000 in
theorem own_any (o s f t : Int) (w : World) :
    Calls Tryd.prog 24 #[.agg #[.int .i64 o, .int .i64 s, .int .i64 f, .int .i64 t]] w fun e w' => e = .returned (.agg #[.int .i64 o, .int .i64 s, .int .i64 f, .int .i64 t]) ∧ Below w.heap.size w w' := by
  go_enter Tryd.func24, Tryd.ntmps24
  go_wp2
  go_returns
  exact ⟨rfl, by go_grown⟩
set_option maxHeartbeats 1000000 in
theorem plain_any (o s f t : Int) (w : World) :
    Calls Tryd.prog 28 #[.agg #[.int .i64 o, .int .i64 s, .int .i64 f, .int .i64 t]] w fun e w' => e = .returned (.agg #[.int .i64 o, .int .i64 s, .int .i64 f, .int .i64 t]) ∧ Below w.heap.size w w' := by
  go_enter Tryd.func28, Tryd.ntmps28
  go_wp2
  go_returns
  exact ⟨rfl, by go_grown⟩
theorem at_int (A : Option Addr) (n c B : Nat) (L : List Int) (i m v : Int) (w : World) (hi : Ints w B A n L) (hL : AllI L) (hn : n ≤ 9223372036854775807) (h0 : 0 ≤ i) (h1 : i ≤ 1000) (hv : Hid (atL L i m = v)) :
    Calls Tryd.prog 34 #[.slice A n c, .int .i64 i, .int .i64 m] w fun e w' => e = .returned (.int .i64 v) ∧ w = w' := by
  obtain ⟨k, rfl⟩ := Int.eq_ofNat_of_zero_le h0
  rw [← hv.out]
  exact at_any A n c B L k m w hi hL hn (by omega)
def sumr (k : Int) : Int := if k = 0 then 0 else if k = 1 then 60 else if k = 2 then 60 else if k = 3 then 30 else 120
theorem five_at (k : Int) (h0 : 0 ≤ k) (h1 : k < 5) : ∀ (hp : k.toNat < [Value.int IntKind.i64 0, Value.int IntKind.i64 60, Value.int IntKind.i64 60, Value.int IntKind.i64 30, Value.int IntKind.i64 120].length), [Value.int IntKind.i64 0, Value.int IntKind.i64 60, Value.int IntKind.i64 60, Value.int IntKind.i64 30, Value.int IntKind.i64 120][k.toNat]'hp = .int .i64 (sumr k) := by
  intro hp
  have h : k = 0 ∨ k = 1 ∨ k = 2 ∨ k = 3 ∨ k = 4 := by omega
  rcases h with h | h | h | h | h <;> subst h <;> rfl
/-- What Zones makes of a list: the four numbers. -/
def znO (L : List Int) : Int := atL L 0 1801 - 900
def znS (L : List Int) : Int := sumr (atL L 1 5)
def znF (L : List Int) : Int := 1 + atL L 2 367
def znT (L : List Int) : Int := znF L + atL L 3 (368 - znF L)
theorem zn_ok (L : List Int) : zok (znO L) (znS L) (znF L) (znT L) = true := by
  have a0 := atL_bd L 0 1801 (by omega)
  have a2 := atL_bd L 2 367 (by omega)
  have a3 := atL_bd L 3 (368 - znF L) (by unfold znF; omega)
  have hs : 0 ≤ znS L ∧ znS L ≤ 120 := by unfold znS sumr; repeat' split <;> omega
  exact zok_t ⟨by unfold znO; omega, by unfold znO; omega, hs.1, hs.2, by unfold znF; omega, by unfold znT; omega, by unfold znT; omega⟩
end Go.Proofs.YtlfgjpidamkpdaaDoor
