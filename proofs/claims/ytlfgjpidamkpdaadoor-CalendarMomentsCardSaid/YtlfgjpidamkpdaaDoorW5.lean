/- Texts of days: the calendar's. -/
import Derived.Test.YtlfgjpidamkpdaaDoorW4
import Derived.Test.YtlfgjpidamkpdaaDoorPlain2
import Derived.Test.YtlfgjpidamkpdaaDoorShelf
import Derived.Lib.QuietBelow
namespace Go.Proofs.YtlfgjpidamkpdaaDoor
open Go.RowKit Go.Sort
theorem gPow : Tryd.prog.globalNamed "internal/strconv.uint64pow10" = some 2 := by kernel_rfl
theorem gSyn : Tryd.prog.globalNamed "strconv.ErrSyntax" = some 0 := by kernel_rfl
theorem gRng : Tryd.prog.globalNamed "strconv.ErrRange" = some 1 := by kernel_rfl
/-- What the calls take of the library's variables. -/
structure TEnv (w : World) : Prop where
  tab : Lib.TabIs Tryd.prog w "internal/strconv.uint64pow10" .u64 Lib.pow10Tab
  syn : ∃ (tp : TypeId) (p : Value), w.var? Tryd.prog "strconv.ErrSyntax" = some #[.iface tp p]
  rng : ∃ (tp : TypeId) (p : Value), w.var? Tryd.prog "strconv.ErrRange" = some #[.iface tp p]
  sz : 5 ≤ w.heap.size
theorem TEnv.below {w w' : World} {B : Nat} (h : TEnv w) (hb : Below B w w') (hB : 5 ≤ B) : TEnv w' := by
  obtain ⟨h1, ⟨a, b, h2⟩, ⟨c, d, h3⟩, h4⟩ := h
  refine ⟨?_, ⟨a, b, var?_below hb gSyn (by omega) h2⟩, ⟨c, d, var?_below hb gRng (by omega) h3⟩, by have := hb.size; omega⟩
  unfold Lib.TabIs at h1 ⊢
  exact var?_below hb gPow (by omega) h1
theorem below_grow (w : World) (k : Nat) (os : Array Obj) : Below w.heap.size w (grow (w.drewN k) os) :=
  (regrown_of_below (w := w) (Below.refl _ _)).elim fun _ _ => ⟨rfl, rfl, rfl, by simp [grow, World.drewN], fun i hi => by simp [grow, World.drewN, Array.getElem?_append, hi]⟩
theorem itoa_any (n : Int) (w : World) (h0 : -9223372036854775808 ≤ n) (h1 : n ≤ 9223372036854775807) (ht : TEnv w) :
    Calls Tryd.prog 44 #[.int .i64 n] w fun e w' => e = .returned (.string ⟨(Lib.itoa n).toArray⟩) ∧ Below w.heap.size w w' :=
  (Tryd.strconv_Itoa n h0 h1 w ht.tab).mono fun e w' ⟨he, k, os, hw⟩ => ⟨he, by rw [hw]; exact below_grow w k os⟩
theorem str_eq {a : ByteArray} {l : List UInt8} (h : a.data.toList = l) : a = ⟨l.toArray⟩ := by
  subst h; cases a; simp
theorem ret_str {a b : ByteArray} (h : a = b) : Ending.returned (.string a) = .returned (.string b) := by rw [h]
theorem two_tail (l : List UInt8) (n : Nat) (hn : l.length = n) : (ByteArray.mk (49 :: l).toArray).extract 1 (n + 1) = ⟨l.toArray⟩ := by
  apply str_eq
  rw [ByteArray.data_extract]
  simp [← hn]
set_option maxHeartbeats 400000 in
theorem two_any (n : Int) (w : World) (h0 : 0 ≤ n) (h1 : n ≤ 99) (ht : TEnv w) :
    Calls Tryd.prog 43 #[.int .i64 n] w fun e w' => e = .returned (.string ⟨(Cal.digs n.toNat 2).toArray⟩) ∧ Below w.heap.size w w' := by
  have H := Lib.hid (Cal.itoa2 n h0 h1)
  go_enter Tryd.func43, Tryd.ntmps43
  go_wp2_with (go_at_call 44; refine (itoa_any _ _ (by omega) (by omega) ht).mono ?_; rintro e w1 ⟨rfl, hb⟩; rw [H.out])
  go_ret
  exact ⟨ret_str (two_tail _ _ rfl), hb⟩
set_option maxHeartbeats 1000000 in
theorem text_any (day : Int) (w : World) (ht : TEnv w) :
    Calls Tryd.prog 15 #[.int .i64 day] w fun e w' => e = .returned (.string ⟨(Cal.txt day).toArray⟩) ∧ Below w.heap.size w w' := by
  cases hk : knownB day
  · have hn := knownB_false hk
    go_enter Tryd.func15, Tryd.ntmps15
    go_wp2_with (go_at_call 36; refine (known_any _ _).mono ?_; rintro e w' ⟨rfl, rfl⟩)
    go_ret
    exact ⟨ret_str (by apply str_eq; unfold Cal.txt; rw [if_neg hn]), by go_grown⟩
  · have hn := knownB_true hk
    obtain ⟨⟨c1, c2, c3, c4, c5, c6⟩, hnum⟩ := Cal.civil_is hn
    have c7 := (Cal.md_bd (Cal.cy day) (Cal.cm day)).2
    have HN := Lib.hid hn
    have HY := Lib.hid (Cal.itoa4 (Cal.cy day) c1 c2)
    clear hnum hn
    have hb := Below.refl w.heap.size w
    have ht0 := ht
    have hsz := ht.sz
    go_enter Tryd.func15, Tryd.ntmps15
    go_wp2_with (first
      | (go_at_call 36; refine (known_any _ _).mono ?_; rintro e w' ⟨rfl, rfl⟩)
      | (go_at_call 11; refine (civil_any _ _).mono ?_; rintro e w1 ⟨rfl, hb1⟩; have hb := hb.trans (hb1.mono hb.size); clear hb1; have ht := ht0.below hb hsz)
      | (go_at_call 44; refine (itoa_any _ _ (by omega) (by omega) ht).mono ?_; rintro e w1 ⟨rfl, hb1⟩; rw [HY.out]; have hb := hb.trans (hb1.mono hb.size); clear hb1; have ht := ht0.below hb hsz)
      | (go_at_call 43; refine (two_any _ _ (by omega) (by omega) ht).mono ?_; rintro e w1 ⟨rfl, hb1⟩; have hb := hb.trans (hb1.mono hb.size); clear hb1; have ht := ht0.below hb hsz))
    go_ret
    exact ⟨ret_str (by apply str_eq; unfold Cal.txt; rw [if_pos HN.out]; simp), hb⟩
end Go.Proofs.YtlfgjpidamkpdaaDoor
