/- Has, Field, Kind of the reference; the specification of Maker.kind. -/
import Derived.Test.YtdpcdocaahjeoaaDoorW33
namespace Go.Proofs.YtdpcdocaahjeoaaDoor
open Go Go.RowKit
namespace Sc
/-- The place of the first element that is so; -1: there is none. -/
def ix {α : Type} (p : α → Bool) : List α → Int
  | [] => -1
  | x :: l => if p x then 0 else if ix p l < 0 then -1 else ix p l + 1
theorem ix_bd {α : Type} (p : α → Bool) : ∀ l : List α, -1 ≤ ix p l ∧ ix p l < l.length
  | [] => by simp [ix]
  | x :: l => by
    have h := ix_bd p l
    rw [ix, List.length_cons]
    split
    · omega
    · split <;> omega
theorem ix_none {α : Type} {p : α → Bool} : ∀ {l : List α}, (∀ j (h : j < l.length), p l[j] = false) → ix p l = -1
  | [], _ => rfl
  | x :: l, h => by
    have h0 := h 0 (by simp)
    rw [List.getElem_cons_zero] at h0
    have h1 := ix_none (p := p) (l := l) fun j hj => by have := h (j + 1) (by simpa using hj); simpa using this
    rw [ix, h0, h1]; rfl
theorem ix_some {α : Type} {p : α → Bool} : ∀ {l : List α} {k : Nat} (hk : k < l.length), p l[k] = true → (∀ j (h : j < l.length), j < k → p l[j] = false) → ix p l = k
  | x :: l, 0, _, h, _ => by
    rw [List.getElem_cons_zero] at h
    rw [ix, h]; rfl
  | x :: l, k + 1, hk, h, hb => by
    have h0 := hb 0 (by simp) (by omega)
    rw [List.getElem_cons_zero] at h0
    have h1 := ix_some (p := p) (l := l) (k := k) (by simpa using hk) (by simpa using h) fun j hj hlt => by have := hb (j + 1) (by simpa using hj) (by omega); simpa using this
    rw [ix, h0, h1]
    simp
    omega
theorem ix_get {α : Type} {p : α → Bool} : ∀ {l : List α}, 0 ≤ ix p l → ∃ k, ∃ h : k < l.length, ix p l = k ∧ p l[k] = true
  | [], h => by simp [ix] at h
  | x :: l, h => by
    rw [ix] at h ⊢
    by_cases hx : p x = true
    · rw [if_pos hx]; exact ⟨0, by simp, rfl, hx⟩
    · rw [if_neg hx] at h ⊢
      by_cases hl : ix p l < 0
      · rw [if_pos hl] at h; omega
      · rw [if_neg hl]
        obtain ⟨k, hk, he, hp⟩ := ix_get (p := p) (l := l) (by omega)
        exact ⟨k + 1, by simpa using hk, by rw [he]; rfl, by simpa using hp⟩
theorem ix_neg {α : Type} {p : α → Bool} : ∀ {l : List α}, ix p l < 0 → ∀ x ∈ l, p x = false
  | [], _, _, h => by cases h
  | x :: l, h, y, hy => by
    rw [ix] at h
    by_cases hx : p x = true
    · rw [if_pos hx] at h; omega
    · rw [if_neg hx] at h
      by_cases hl : ix p l < 0
      · rcases List.mem_cons.1 hy with rfl | hy
        · simpa using hx
        · exact ix_neg hl y hy
      · rw [if_neg hl] at h; omega
def named (s : ByteArray) (f : Fld) : Bool := decide (nm f = s)
def copyable (f : Fld) : Bool := decide (kd f ≠ 0) && decide (kd f ≠ 1) && decide (kd f ≠ 6) && decide (kd f ≠ 7)
def kindNamed (s : ByteArray) (k : Knd) : Bool := decide (k.1 = s)
end Sc
theorem strEq_t {a b : ByteArray} (h : a = b) : (a.toList == b.toList) = true := by rw [h]; exact beq_self_eq_true _
theorem strEq_f {a b : ByteArray} (h : a ≠ b) : (a.toList == b.toList) = false := by
  rw [beq_eq_false_iff_ne]
  intro he
  apply h
  rw [ByteArray.toList_eq, ByteArray.toList_eq] at he
  cases a; cases b
  simp only [ByteArray.mk.injEq]
  exact Array.toList_inj.1 he
set_option maxRecDepth 100000 in
set_option maxHeartbeats 4000000 in
theorem has_any {G : List Nat} (l : List Fld) (A : Option Addr) (c : Nat) (s : ByteArray) (w : World) (hs : SlAt G w A l) (hm : l.length ≤ 9223372036854775807) :
    Calls Tryd.prog 65 #[.slice A l.length c, .string s] w fun e w' => e = .returned (.int .i64 (Sc.ix (Sc.named s) l)) ∧ Below w.heap.size w w' := by
  obtain ⟨n, hn⟩ : ∃ n, l.length = n := ⟨_, rfl⟩
  rw [hn] at hm ⊢
  have HS := Lib.hid hs; have HN := Lib.hid hn
  obtain ⟨r, hr⟩ : ∃ r, Sc.ix (Sc.named s) l = r := ⟨_, rfl⟩
  rw [hr]
  have HR := Lib.hid hr
  clear hs hn hr
  go_enter Tryd.func65, Tryd.ntmps65
  go_wp2_with fail
  go_loopg [5] n (fun r i wr => ∃ (k : Nat), k + r = n ∧ i = .int .i64 k ∧ Below w.heap.size w wr ∧ ∀ j (h1 : j < l.length), j < k → (Sc.named s) l[j] = false)
  case atStart => exact ⟨0, by omega, rfl, Below.refl _ _, fun _ _ h => by omega⟩
  case round =>
    obtain ⟨k, hk, rfl, hbl, hall⟩ := hrel
    have HL := Lib.hid hbl; have HE := Lib.hid hall
    clear hbl hall
    obtain ⟨wo, rfl⟩ : ∃ wo : World, wo = wr := ⟨_, rfl⟩
    by_cases hlt : k < n
    · have hka : k < l.length := by rw [HN.out]; exact hlt
      have k0 : (0 : Int) ≤ (k : Int) := Int.natCast_nonneg _
      have k1 : (k : Int) < (n : Int) := by omega
      obtain ⟨b1, o1, _, _, _, _, rfl, _, c0, _⟩ := fld_at (HS.out.keep (Chg.of_below HL.out)) k hka
      by_cases hy : Sc.nm l[k] = s
      · have hx := decide_eq_true hy
        have HF := Lib.hid (HR.out.symm.trans (Sc.ix_some (p := Sc.named s) hka hx HE.out))
        have t1 := strEq_t hy
        generalize Sc.nm l[k] = y at c0 t1
        clear hy hx
        go_wp2_with fail
        go_ret
        exact ⟨ret_int HF.out.symm, by first | exact HL.out.drewN _ | exact HL.out.drew | exact HL.out | exact ⟨HL.out.os, HL.out.tape, HL.out.output, HL.out.size, HL.out.block⟩⟩
      · have hx := decide_eq_false hy
        have HX := Lib.hid (show (Sc.named s) l[k] = false from hx)
        have t1 := strEq_f hy
        generalize Sc.nm l[k] = y at c0 t1
        clear hy hx
        go_wp2_with fail
        go_roundg (gk - 1)
        case measure => omega
        case rel =>
          refine ⟨k + 1, by omega, by go_num, ?_, fun j h1 hj => ?_⟩
          · first | exact HL.out.drewN _ | exact HL.out.drew | exact HL.out | exact ⟨HL.out.os, HL.out.tape, HL.out.output, HL.out.size, HL.out.block⟩
          · rcases Nat.lt_or_ge j k with h' | h'
            · exact HE.out j h1 h'
            · obtain rfl : j = k := by omega
              exact HX.out
    · have hkn : k = n := by omega
      subst hkn
      have HF := Lib.hid (HR.out.symm.trans (Sc.ix_none (p := Sc.named s) fun j hj => HE.out j hj (by rw [HN.out] at hj; exact hj)))
      go_wp2_with fail
      go_ret
      exact ⟨ret_int HF.out.symm, HL.out⟩
set_option maxRecDepth 100000 in
set_option maxHeartbeats 4000000 in
theorem copied_any {G : List Nat} (l : List Fld) (A : Option Addr) (c : Nat) (kn : ByteArray) (klo khi : Int) (w : World) (hs : SlAt G w A l) (hm : l.length ≤ 9223372036854775807) :
    Calls Tryd.prog 64 #[.agg #[.string kn, .int .i64 klo, .int .i64 khi, .slice A l.length c]] w fun e w' => e = .returned (.int .i64 (Sc.ix (Sc.copyable) l)) ∧ Below w.heap.size w w' := by
  obtain ⟨n, hn⟩ : ∃ n, l.length = n := ⟨_, rfl⟩
  rw [hn] at hm ⊢
  have HS := Lib.hid hs; have HN := Lib.hid hn
  obtain ⟨r, hr⟩ : ∃ r, Sc.ix (Sc.copyable) l = r := ⟨_, rfl⟩
  rw [hr]
  have HR := Lib.hid hr
  clear hs hn hr
  have T0 := Lib.hid ((held0 w [] (fun _ h => by cases h)).new #[.string kn, .int .i64 klo, .int .i64 khi, .slice A n c] 56 rfl)
  go_enter Tryd.func64, Tryd.ntmps64
  go_wp2_with fail
  go_loopg [3] n (fun r i wr => ∃ (k : Nat) (M : List Nat), k + r = n ∧ i = .int .i64 k ∧ Held w [] M [(w.heap.size, 56, #[.string kn, .int .i64 klo, .int .i64 khi, .slice A n c])] [] wr ∧ ∀ j (h1 : j < l.length), j < k → (Sc.copyable) l[j] = false)
  case atStart => exact ⟨0, _, by omega, rfl, T0.out, fun _ _ h => by omega⟩
  case round =>
    obtain ⟨k, M, hk, rfl, hbl, hall⟩ := hrel
    have HL := Lib.hid hbl; have HE := Lib.hid hall
    clear hbl hall T0
    obtain ⟨wo, rfl⟩ : ∃ wo : World, wo = wr := ⟨_, rfl⟩
    obtain ⟨y0, y1, y2, y3⟩ := cells4 (HL.out.box (.head _))
    by_cases hlt : k < n
    · have hka : k < l.length := by rw [HN.out]; exact hlt
      have k0 : (0 : Int) ≤ (k : Int) := Int.natCast_nonneg _
      have k1 : (k : Int) < (n : Int) := by omega
      obtain ⟨b1, o1, _, _, _, _, rfl, _, _, _, _, c0, _⟩ := fld_at (HS.out.keep (Chg.of_below HL.out.bl)) k hka
      obtain ⟨y, hy⟩ : ∃ y, Sc.kd l[k] = y := ⟨_, rfl⟩
      rw [hy] at c0
      rcases (show y = 0 ∨ y = 1 ∨ y = 6 ∨ y = 7 ∨ (y ≠ 0 ∧ y ≠ 1 ∧ y ≠ 6 ∧ y ≠ 7) by omega) with rfl | rfl | rfl | rfl | ⟨y0, y1, y2, y3⟩
      · have hx : Sc.copyable l[k] = false := by unfold Sc.copyable; rw [hy]; rfl
        have HX := Lib.hid (show (Sc.copyable) l[k] = false from hx)
        clear hy hx
        go_wp2_with fail
        go_roundg (gk - 1)
        case measure => omega
        case rel =>
          refine ⟨k + 1, M, by omega, by go_num, ?_, fun j h1 hj => ?_⟩
          · first | exact HL.out.drewN _ | exact HL.out.drew | exact HL.out
          · rcases Nat.lt_or_ge j k with h' | h'
            · exact HE.out j h1 h'
            · obtain rfl : j = k := by omega
              exact HX.out
      · have hx : Sc.copyable l[k] = false := by unfold Sc.copyable; rw [hy]; rfl
        have HX := Lib.hid (show (Sc.copyable) l[k] = false from hx)
        clear hy hx
        go_wp2_with fail
        go_roundg (gk - 1)
        case measure => omega
        case rel =>
          refine ⟨k + 1, M, by omega, by go_num, ?_, fun j h1 hj => ?_⟩
          · first | exact HL.out.drewN _ | exact HL.out.drew | exact HL.out
          · rcases Nat.lt_or_ge j k with h' | h'
            · exact HE.out j h1 h'
            · obtain rfl : j = k := by omega
              exact HX.out
      · have hx : Sc.copyable l[k] = false := by unfold Sc.copyable; rw [hy]; rfl
        have HX := Lib.hid (show (Sc.copyable) l[k] = false from hx)
        clear hy hx
        go_wp2_with fail
        go_roundg (gk - 1)
        case measure => omega
        case rel =>
          refine ⟨k + 1, M, by omega, by go_num, ?_, fun j h1 hj => ?_⟩
          · first | exact HL.out.drewN _ | exact HL.out.drew | exact HL.out
          · rcases Nat.lt_or_ge j k with h' | h'
            · exact HE.out j h1 h'
            · obtain rfl : j = k := by omega
              exact HX.out
      · have hx : Sc.copyable l[k] = false := by unfold Sc.copyable; rw [hy]; rfl
        have HX := Lib.hid (show (Sc.copyable) l[k] = false from hx)
        clear hy hx
        go_wp2_with fail
        go_roundg (gk - 1)
        case measure => omega
        case rel =>
          refine ⟨k + 1, M, by omega, by go_num, ?_, fun j h1 hj => ?_⟩
          · first | exact HL.out.drewN _ | exact HL.out.drew | exact HL.out
          · rcases Nat.lt_or_ge j k with h' | h'
            · exact HE.out j h1 h'
            · obtain rfl : j = k := by omega
              exact HX.out
      · have hx : Sc.copyable l[k] = true := by unfold Sc.copyable; rw [hy]; simp [y0, y1, y2, y3]
        have HF := Lib.hid (HR.out.symm.trans (Sc.ix_some (p := Sc.copyable) hka hx HE.out))
        have t0 : (y != 0) = true := bne_iff_ne.2 y0
        have t1 : (y != 1) = true := bne_iff_ne.2 y1
        have t2 : (y != 6) = true := bne_iff_ne.2 y2
        have t3 : (y != 7) = true := bne_iff_ne.2 y3
        clear hy hx y0 y1 y2 y3
        go_wp2_with fail
        go_ret
        exact ⟨ret_int HF.out.symm, by first | exact HL.out.bl.drewN _ | exact HL.out.bl.drew | exact HL.out.bl | exact ⟨HL.out.bl.os, HL.out.bl.tape, HL.out.bl.output, HL.out.bl.size, HL.out.bl.block⟩⟩
    · have hkn : k = n := by omega
      subst hkn
      have HF := Lib.hid (HR.out.symm.trans (Sc.ix_none (p := Sc.copyable) fun j hj => HE.out j hj (by rw [HN.out] at hj; exact hj)))
      go_wp2_with fail
      go_ret
      exact ⟨ret_int HF.out.symm, HL.out.bl⟩
set_option maxRecDepth 100000 in
set_option maxHeartbeats 4000000 in
theorem field_any {G : List Nat} (l : List Fld) (A : Option Addr) (c : Nat) (kn : ByteArray) (klo khi : Int) (s : ByteArray) (w : World) (hs : SlAt G w A l) (hm : l.length ≤ 9223372036854775807) :
    Calls Tryd.prog 68 #[.agg #[.string kn, .int .i64 klo, .int .i64 khi, .slice A l.length c], .string s] w fun e w' => e = .returned (.int .i64 (Sc.ix (Sc.named s) l)) ∧ Below w.heap.size w w' := by
  obtain ⟨n, hn⟩ : ∃ n, l.length = n := ⟨_, rfl⟩
  rw [hn] at hm ⊢
  have HS := Lib.hid hs; have HN := Lib.hid hn
  obtain ⟨r, hr⟩ : ∃ r, Sc.ix (Sc.named s) l = r := ⟨_, rfl⟩
  rw [hr]
  have HR := Lib.hid hr
  clear hs hn hr
  have T0 := Lib.hid ((held0 w [] (fun _ h => by cases h)).new #[.string kn, .int .i64 klo, .int .i64 khi, .slice A n c] 56 rfl)
  go_enter Tryd.func68, Tryd.ntmps68
  go_wp2_with fail
  go_loopg [5] n (fun r i wr => ∃ (k : Nat) (M : List Nat), k + r = n ∧ i = .int .i64 k ∧ Held w [] M [(w.heap.size, 56, #[.string kn, .int .i64 klo, .int .i64 khi, .slice A n c])] [] wr ∧ ∀ j (h1 : j < l.length), j < k → (Sc.named s) l[j] = false)
  case atStart => exact ⟨0, _, by omega, rfl, T0.out, fun _ _ h => by omega⟩
  case round =>
    obtain ⟨k, M, hk, rfl, hbl, hall⟩ := hrel
    have HL := Lib.hid hbl; have HE := Lib.hid hall
    clear hbl hall T0
    obtain ⟨wo, rfl⟩ : ∃ wo : World, wo = wr := ⟨_, rfl⟩
    obtain ⟨y0, y1, y2, y3⟩ := cells4 (HL.out.box (.head _))
    by_cases hlt : k < n
    · have hka : k < l.length := by rw [HN.out]; exact hlt
      have k0 : (0 : Int) ≤ (k : Int) := Int.natCast_nonneg _
      have k1 : (k : Int) < (n : Int) := by omega
      obtain ⟨b1, o1, _, _, _, _, rfl, _, c0, _⟩ := fld_at (HS.out.keep (Chg.of_below HL.out.bl)) k hka
      by_cases hy : Sc.nm l[k] = s
      · have hx := decide_eq_true hy
        have HF := Lib.hid (HR.out.symm.trans (Sc.ix_some (p := Sc.named s) hka hx HE.out))
        have t1 := strEq_t hy
        generalize Sc.nm l[k] = y at c0 t1
        clear hy hx
        go_wp2_with fail
        go_ret
        exact ⟨ret_int HF.out.symm, by first | exact HL.out.bl.drewN _ | exact HL.out.bl.drew | exact HL.out.bl | exact ⟨HL.out.bl.os, HL.out.bl.tape, HL.out.bl.output, HL.out.bl.size, HL.out.bl.block⟩⟩
      · have hx := decide_eq_false hy
        have HX := Lib.hid (show (Sc.named s) l[k] = false from hx)
        have t1 := strEq_f hy
        generalize Sc.nm l[k] = y at c0 t1
        clear hy hx
        go_wp2_with fail
        go_roundg (gk - 1)
        case measure => omega
        case rel =>
          refine ⟨k + 1, M, by omega, by go_num, ?_, fun j h1 hj => ?_⟩
          · first | exact HL.out.drewN _ | exact HL.out.drew | exact HL.out
          · rcases Nat.lt_or_ge j k with h' | h'
            · exact HE.out j h1 h'
            · obtain rfl : j = k := by omega
              exact HX.out
    · have hkn : k = n := by omega
      subst hkn
      have HF := Lib.hid (HR.out.symm.trans (Sc.ix_none (p := Sc.named s) fun j hj => HE.out j hj (by rw [HN.out] at hj; exact hj)))
      go_wp2_with fail
      go_ret
      exact ⟨ret_int HF.out.symm, HL.out.bl⟩
set_option maxRecDepth 100000 in
set_option maxHeartbeats 4000000 in
theorem kind_any {G : List Nat} (l : List Knd) (A : Option Addr) (c : Nat) (ver : Int) (B C : Option Addr) (n2 c2 n3 c3 : Nat) (s : ByteArray) (w : World) (hs : SlAt G w A l) (hm : l.length ≤ 9223372036854775807) :
    Calls Tryd.prog 69 #[.agg #[.int .i64 ver, .slice A l.length c, .slice B n2 c2, .slice C n3 c3], .string s] w fun e w' => e = .returned (.int .i64 (Sc.ix (Sc.kindNamed s) l)) ∧ Below w.heap.size w w' := by
  obtain ⟨n, hn⟩ : ∃ n, l.length = n := ⟨_, rfl⟩
  rw [hn] at hm ⊢
  have HS := Lib.hid hs; have HN := Lib.hid hn
  obtain ⟨r, hr⟩ : ∃ r, Sc.ix (Sc.kindNamed s) l = r := ⟨_, rfl⟩
  rw [hr]
  have HR := Lib.hid hr
  clear hs hn hr
  have T0 := Lib.hid ((held0 w [] (fun _ h => by cases h)).new #[.int .i64 ver, .slice A n c, .slice B n2 c2, .slice C n3 c3] 27 rfl)
  go_enter Tryd.func69, Tryd.ntmps69
  go_wp2_with fail
  go_loopg [5] n (fun r i wr => ∃ (k : Nat) (M : List Nat), k + r = n ∧ i = .int .i64 k ∧ Held w [] M [(w.heap.size, 27, #[.int .i64 ver, .slice A n c, .slice B n2 c2, .slice C n3 c3])] [] wr ∧ ∀ j (h1 : j < l.length), j < k → (Sc.kindNamed s) l[j] = false)
  case atStart => exact ⟨0, _, by omega, rfl, T0.out, fun _ _ h => by omega⟩
  case round =>
    obtain ⟨k, M, hk, rfl, hbl, hall⟩ := hrel
    have HL := Lib.hid hbl; have HE := Lib.hid hall
    clear hbl hall T0
    obtain ⟨wo, rfl⟩ : ∃ wo : World, wo = wr := ⟨_, rfl⟩
    obtain ⟨y0, y1, y2, y3⟩ := cells4 (HL.out.box (.head _))
    by_cases hlt : k < n
    · have hka : k < l.length := by rw [HN.out]; exact hlt
      have k0 : (0 : Int) ≤ (k : Int) := Int.natCast_nonneg _
      have k1 : (k : Int) < (n : Int) := by omega
      obtain ⟨b1, o1, _, _, rfl, _, c0, _⟩ := knd_at (HS.out.keep (Chg.of_below HL.out.bl)) k hka
      by_cases hy : l[k].1 = s
      · have hx := decide_eq_true hy
        have HF := Lib.hid (HR.out.symm.trans (Sc.ix_some (p := Sc.kindNamed s) hka hx HE.out))
        have t1 := strEq_t hy
        generalize l[k].1 = y at c0 t1
        clear hy hx
        go_wp2_with fail
        go_ret
        exact ⟨ret_int HF.out.symm, by first | exact HL.out.bl.drewN _ | exact HL.out.bl.drew | exact HL.out.bl | exact ⟨HL.out.bl.os, HL.out.bl.tape, HL.out.bl.output, HL.out.bl.size, HL.out.bl.block⟩⟩
      · have hx := decide_eq_false hy
        have HX := Lib.hid (show (Sc.kindNamed s) l[k] = false from hx)
        have t1 := strEq_f hy
        generalize l[k].1 = y at c0 t1
        clear hy hx
        go_wp2_with fail
        go_roundg (gk - 1)
        case measure => omega
        case rel =>
          refine ⟨k + 1, M, by omega, by go_num, ?_, fun j h1 hj => ?_⟩
          · first | exact HL.out.drewN _ | exact HL.out.drew | exact HL.out
          · rcases Nat.lt_or_ge j k with h' | h'
            · exact HE.out j h1 h'
            · obtain rfl : j = k := by omega
              exact HX.out
    · have hkn : k = n := by omega
      subst hkn
      have HF := Lib.hid (HR.out.symm.trans (Sc.ix_none (p := Sc.kindNamed s) fun j hj => HE.out j hj (by rw [HN.out] at hj; exact hj)))
      go_wp2_with fail
      go_ret
      exact ⟨ret_int HF.out.symm, HL.out.bl⟩
end Go.Proofs.YtdpcdocaahjeoaaDoor
namespace Go.Proofs.YtdpcdocaahjeoaaDoor
open Go Go.RowKit
namespace Sg
def bperson : ByteArray := ⟨#[112, 101, 114, 115, 111, 110]⟩
def border : ByteArray := ⟨#[111, 114, 100, 101, 114]⟩
def bitem : ByteArray := ⟨#[105, 116, 101, 109]⟩
def kname (n : Nat) : ByteArray := [bperson, border, bitem].getD n be
def bid : ByteArray := ⟨#[105, 100]⟩
def bof : ByteArray := ⟨#[111, 102]⟩
def bsame : ByteArray := ⟨#[115, 97, 109, 101]⟩
def bpart : ByteArray := ⟨#[112, 97, 114, 116]⟩
def btotal : ByteArray := ⟨#[116, 111, 116, 97, 108]⟩
def bby : ByteArray := ⟨#[98, 121]⟩
def idF (lo : Int) : Fld := (bid, be, be, 0, lo, 0, [], [])
def ofF (k : ByteArray) (lo hi : Int) : Fld := (bof, k, be, 1, lo, hi, [], [])
def sameF (s : ByteArray) : Fld := (bsame, s, bof, 8, 0, 0, [], [])
def partF (lo hi : Int) : Fld := (bpart, btotal, bof, 7, lo, hi, [], [])
def totalF (k : ByteArray) : Fld := (btotal, k, be, 6, 0, 0, [], [])
def byF (k : ByteArray) : Fld := (bby, k, be, 1, 0, 8, [], [])
def setF (k : Knd) (fs : List Fld) : Knd := (k.1, k.2.1, k.2.2.1, fs)
def okLo (lo : Int) : Prop := lo = 0 ∨ lo = 1 ∨ lo = 100 ∨ lo = -3
/-- A copy of a field above, or none. -/
inductive Same (k : Knd) : List Fld → Prop
  | none : Same k []
  | some (c : Nat) (h : c < (Sc.flds k).length) : Sc.copyable (Sc.flds k)[c] = true → Same k [sameF (Sc.nm (Sc.flds k)[c])]
/-- A share of a total above, or none. -/
inductive Part (nm : ByteArray) (ks : List Knd) (tq : Nat) (h : tq < ks.length) : List Fld → List Knd → Prop
  | none : Part nm ks tq h [] ks
  | some (lo d : Int) : 0 ≤ lo → lo ≤ 2 → 0 ≤ d → d ≤ 7 → Sc.ix (Sc.named btotal) (Sc.flds ks[tq]) < 0 → Part nm ks tq h [partF lo (lo + d)] (ks.set tq (setF ks[tq] (Sc.flds ks[tq] ++ [totalF nm])))
/-- The fields up tq those that lead up. -/
inductive Body (nm : ByteArray) : List Knd → List Fld → List Knd → Prop
  | nil (lo : Int) : okLo lo → Body nm [] [idF lo] []
  | cons (ks : List Knd) (tq : Nat) (h : tq < ks.length) (lo flo hi : Int) (same part : List Fld) (ks' : List Knd) : okLo lo → 0 ≤ flo → flo ≤ 1 → 2 ≤ hi → hi ≤ 8 → Same ks[tq] same → Part nm ks tq h part ks' → Body nm ks ([idF lo, ofF ks[tq].1 flo hi] ++ same ++ part) ks'
def By (ks ks' : List Knd) (l : List Fld) : Prop := l = [] ∨ 2 ≤ ks.length ∧ ∃ k0, ks'[0]? = some k0 ∧ l = [byF k0.1]
def Sec (fs l : List Fld) : Prop := l = [] ∨ Plain l ∧ ∃ f r, l = f :: r ∧ Sc.ix (Sc.named (Sc.nm f)) fs < 0
inductive Fields (nm : ByteArray) (ks : List Knd) : List Fld → List Knd → Prop
  | mk (fs : List Fld) (ks' : List Knd) (by_ first second : List Fld) : Body nm ks fs ks' → By ks ks' by_ → Plain first → Sec (fs ++ by_ ++ first) second → Fields nm ks (fs ++ by_ ++ first ++ second) ks'
/-- A kind behind others, and how these stand then. -/
structure Kind (ks : List Knd) (k : Knd) (ks' : List Knd) : Prop where
  nm : k.1 = kname ks.length
  lo0 : 0 ≤ k.2.1
  lo4 : k.2.1 ≤ 4
  hi0 : k.2.1 ≤ k.2.2.1
  hi4 : k.2.2.1 ≤ k.2.1 + 4
  fs : Fields k.1 ks (Sc.flds k) ks'
theorem Plain.len {fs : List Fld} (h : Plain fs) : fs.length ≤ 2 := by cases h <;> simp
theorem Same.len {k : Knd} {fs : List Fld} (h : Same k fs) : fs.length ≤ 1 := by cases h <;> simp
theorem Part.len {nm : ByteArray} {ks : List Knd} {tq : Nat} {h : tq < ks.length} {fs : List Fld} {ks' : List Knd} (hp : Part nm ks tq h fs ks') : fs.length ≤ 1 ∧ ks'.length = ks.length := by cases hp <;> simp
theorem Body.len {nm : ByteArray} {ks : List Knd} {fs : List Fld} {ks' : List Knd} (h : Body nm ks fs ks') : 1 ≤ fs.length ∧ fs.length ≤ 4 ∧ ks'.length = ks.length := by
  cases h with
  | nil lo _ => simp
  | cons _ tq hto lo flo hi same part _ _ _ _ _ _ h1 h2 => have := h1.len; have := h2.len; simp; omega
end Sg
/-- A block that the walk made, as a fact. -/
theorem MkH.made {K : MkK} {M : List Nat} {bx : List Box} {rs : List Rw} {L : List (List Nat → World → Prop)} {W : World} (h : MkH K M bx rs L W) (cs : Array Value) (t : TypeId) {N : Nat} (hN : W.heap.size = N) : MkH K M bx rs ((fun M W => N ∉ M ∧ Blk W N t cs) :: L) (W.alloc (.cells cs t)) := by
  subst hN
  exact (h.below ((Below.refl _ _).alloc (Nat.le_refl _) _)).add (keeps_blk _ t cs) ⟨fun hm => by have := h.mb _ hm; omega, Blk.new _ _ _⟩
/-- A box that a region's operation made. -/
theorem HR.adopt {w W : World} {G M : List Nat} {bx : List Box} {rs : List Rw} {L : List (List Nat → World → Prop)} (h : HR w G M bx rs L W) {s : Nat} (hs : ∀ g ∈ M, g < s) (hrs : ∀ r ∈ rs, ∀ g, r.v.ownBlock = some g → g < s) {cs : Array Value} {t : TypeId} {N : Nat} (hw : w.heap.size ≤ N) (hsN : s ≤ N) (hlt : ∀ P ∈ L, P (N :: M) W) (hb : Blk W N t cs) : HR w G (N :: M) ((N, t, cs) :: bx) rs L W := by
  have hbx : ∀ x ∈ bx, x.1 ≠ N := fun x hx e => by have := hs _ (h.h.bs x hx).1; omega
  refine ⟨⟨h.h.bl, fun g hg => ?_, fun g hg => .tail _ (h.h.gm g hg), fun x hx => ?_, ?_, fun P hP => ⟨(h.h.all P hP).1, hlt P hP⟩⟩, fun r hr g hg => ⟨.tail _ (h.ok r hr g hg).1, (h.ok r hr g hg).2.1, fun x hx => ?_⟩, h.own, h.apart⟩
  · rcases List.mem_cons.1 hg with rfl | hg
    · exact hb.lt
    · exact h.h.mb g hg
  · rcases List.mem_cons.1 hx with rfl | hx
    · exact ⟨.head _, hw, hb⟩
    · exact ⟨.tail _ (h.h.bs x hx).1, (h.h.bs x hx).2⟩
  · rw [List.map_cons, List.nodup_cons]
    exact ⟨fun hm => by obtain ⟨x, hx, he⟩ := List.mem_map.1 hm; exact hbx x hx he, h.h.nd⟩
  · rcases List.mem_cons.1 hx with rfl | hx
    · have := hrs r hr g hg; simp; omega
    · exact (h.ok r hr g hg).2.2 x hx
theorem MkH.adopt {K : MkK} {M : List Nat} {bx : List Box} {rs : List Rw} {L : List (List Nat → World → Prop)} {W W' : World} (h : MkH K M bx rs L W) (hr : K.R W W') {cs : Array Value} {t : TypeId} {N : Nat} (hN : W.heap.size ≤ N) (hb : Blk W' N t cs) : MkH K (N :: M) ((N, t, cs) :: bx) rs L W' := by
  obtain ⟨i, hi, H⟩ := h.it
  obtain ⟨i', hi', H'⟩ := H.mkr hi hr
  refine ⟨h.len, h.base, i', hi', (HR.adopt H' (s := W.heap.size) H.h.mb (fun r hr g hg => H.h.mb g (H.ok r hr g hg).1) (Nat.le_trans H.h.bl.size hN) hN (fun P hP => ?_) hb).bperm (List.Perm.swap _ _ _)⟩
  refine (H.h.all P hP).1.1 (N :: M) W W' ((H.h.all P hP).1.2 M (N :: M) W (H.h.all P hP).2 fun g hg => ?_) (hr.chg.mono fun g hg => .inl ?_)
  · rcases List.mem_cons.1 hg with rfl | hg
    · exact .inr hN
    · exact .inl hg
  · rw [List.mem_singleton.1 hg]; exact .tail _ (H.h.bs _ (.head _)).1
/-- Elements from a slice, cell by cell. -/
theorem flat_of_get {α : Type} [Mem α] {G : List Nat} {w : World} : ∀ {l : List α} {f : Nat → Value}, (∀ i (h : i < l.length), ∃ us, Mem.rep G w l[i] us ∧ ∀ j u, us[j]? = some u → f (i * Mem.sz α + j) = u) → Flat G w l ((List.range (l.length * Mem.sz α)).map f)
  | [], f, _ => by simp [Flat]
  | a :: l, f, h => by
    obtain ⟨us, h1, h2⟩ := h 0 (by simp)
    have hl := Mem.len h1
    have ih := flat_of_get (l := l) (f := fun k => f (Mem.sz α + k)) fun i hi => by
      obtain ⟨us', h3, h4⟩ := h (i + 1) (by simpa using hi)
      refine ⟨us', by simpa using h3, fun j u hu => ?_⟩
      rw [← h4 j u hu]
      congr 1
      rw [Nat.add_mul]; omega
    refine ⟨us, _, ?_, by simpa using h1, ih⟩
    have e : (a :: l).length * Mem.sz α = Mem.sz α + l.length * Mem.sz α := by rw [List.length_cons, Nat.add_mul]; omega
    rw [e, List.range_add, List.map_append]
    congr 1
    · refine List.ext_getElem (by rw [List.length_map, List.length_range, hl]) fun j h1' h2' => ?_
      rw [List.getElem_map, List.getElem_range]
      have := h2 j us[j] (by rw [List.getElem?_eq_getElem])
      rw [Nat.zero_mul, Nat.zero_add] at this
      exact this
    · rw [List.map_map]; rfl
/-- A slice of data as cells that may be read. -/
theorem SlAt.reads {α : Type} [Mem α] {G : List Nat} {w : World} {A : Option Addr} {l : List α} (h : SlAt G w A l) : ∃ xs, Reads w w.heap.size (Mem.sz α) A l.length xs ∧ Flat G w l xs := by
  rcases h with rfl | ⟨b, o, rfl, hb, hg, h⟩
  · exact ⟨[], ⟨by simp, fun h => absurd h (by simp)⟩, rfl⟩
  · obtain ⟨f, hf⟩ : ∃ f : Nat → Value, f = fun k => (w.cell? ⟨b, o + k, none⟩).getD (.bool false) := ⟨_, rfl⟩
    have key : ∀ i (h : i < l.length), ∃ us, Mem.rep G w l[i] us ∧ ∀ j u, us[j]? = some u → f (i * Mem.sz α + j) = u := fun i hi => by
      obtain ⟨us, h1, h2⟩ := h i hi
      exact ⟨us, h1, fun j u hu => by rw [hf]; simp only; rw [h2 j u hu]; rfl⟩
    refine ⟨_, ⟨by simp, fun hn => ⟨_, rfl, hb, fun j u hu => ?_⟩⟩, flat_of_get key⟩
    rw [List.getElem?_map] at hu
    by_cases hj : j < l.length * Mem.sz α
    · rw [List.getElem?_range hj] at hu
      obtain rfl : f j = u := by simpa using hu
      have hs : 0 < Mem.sz α := by
        rcases Nat.eq_zero_or_pos (Mem.sz α) with h0 | h0
        · rw [h0] at hj; omega
        · exact h0
      obtain ⟨us, h1, h2⟩ := h (j / Mem.sz α) (Nat.div_lt_of_lt_mul (by rw [Nat.mul_comm]; exact hj))
      have hlt : j % Mem.sz α < us.length := by rw [Mem.len h1]; exact Nat.mod_lt _ hs
      have hc := h2 (j % Mem.sz α) _ (List.getElem?_eq_getElem hlt)
      rw [Nat.mul_comm, Nat.div_add_mod] at hc
      have e : (Addr.mk b o none).add j = ⟨b, o + j, none⟩ := by
        unfold Addr.add; split
        · rename_i h0; rw [h0]; rfl
        · rfl
      rw [e, hf]; simp only; rw [hc]; rfl
    · rw [List.getElem?_eq_none (by simpa using hj)] at hu; cases hu
/-- A kind's fields are set in a row of kinds. -/
theorem flat_setF {G : List Nat} {w : World} {fs : List Fld} {v : Value} : ∀ {ks : List Knd} {xs : List Value}, Flat G w ks xs → ∀ (i : Nat) (h : i < ks.length), Rep G w fs v → Flat G w (ks.set i (Sg.setF ks[i] fs)) (xs.set (i * 4 + 3) v)
  | [], _, _, i, h, _ => by simp at h
  | k :: ks, xs, hf, 0, _, hv => by
    obtain ⟨us, ts, rfl, h1, h2⟩ := hf
    obtain ⟨u1, t1, rfl, ⟨rfl, a1⟩, u2, t2, rfl, ⟨rfl, a2⟩, u3, t3, rfl, ⟨rfl, a3⟩, h4⟩ := h1
    obtain ⟨A, c, rfl, _⟩ := h4
    exact ⟨[_, _, _, v], ts, rfl, ⟨[_], _, rfl, ⟨rfl, a1⟩, [_], _, rfl, ⟨rfl, a2⟩, [_], _, rfl, ⟨rfl, a3⟩, hv⟩, h2⟩
  | k :: ks, xs, hf, i + 1, h, hv => by
    obtain ⟨us, ts, rfl, h1, h2⟩ := hf
    have hl := Mem.len h1
    have ih := flat_setF h2 i (by simpa using h) hv
    refine ⟨us, _, ?_, h1, ih⟩
    rw [List.set_append_right _ _ (by rw [hl]; show 4 ≤ _; omega)]
    congr 2
    rw [hl]
    show (i + 1) * 4 + 3 - 4 = _
    omega
/-- A kind of a row of kinds, cell by cell. -/
theorem MkH.knd {K : MkK} {M : List Nat} {bx : List Box} {rs : List Rw} {L : List (List Nat → World → Prop)} {W : World} {e : TypeId} {v : Value} {ks : List Knd} {xs : List Value} {n : Nat} (h : MkH K M bx rs L W) (hr : (⟨e, 4, v, n, xs⟩ : Rw) ∈ rs) (hn : n = ks.length) (hf : Flat M W ks xs) (k : Nat) (hk : k < ks.length) : ∃ g c B cB, v = .slice (some ⟨g, 0, none⟩) n c ∧
    W.cell? ⟨g, k * 4, none⟩ = some (.string ks[k].1) ∧ W.cell? ⟨g, k * 4 + 1, none⟩ = some (.int .i64 ks[k].2.1) ∧ W.cell? ⟨g, k * 4 + 2, none⟩ = some (.int .i64 ks[k].2.2.1) ∧ W.cell? ⟨g, k * 4 + 3, none⟩ = some (.slice B (Sc.flds ks[k]).length cB) ∧
    SlAt M W B (Sc.flds ks[k]) ∧ (Sc.flds ks[k]).length ≤ cB ∧ cB ≤ 9223372036854775807 ∧ inI ks[k].2.1 ∧ inI ks[k].2.2.1 ∧ ks[k].1.size ≤ 9223372036854775807 ∧ (∃ cur, Blk W g e cur) := by
  have hown := h.own _ hr
  simp only at hown
  obtain ⟨A, c, rfl⟩ := own_form hown
  obtain ⟨g, rfl, hc⟩ := owns_cell hown (by omega)
  obtain ⟨g', cur, hg', hb, _⟩ := owns_blk hown (by omega)
  obtain rfl : g = g' := by injection hg' with h; injection h
  obtain ⟨us, h1, h2⟩ := hf.get k hk
  obtain ⟨B, cB, rfl, s1, a1, a2, a3, a4, a5⟩ := rep_knd h1
  exact ⟨g, c, B, cB, rfl, hc _ _ (h2 0 _ rfl), hc _ _ (h2 1 _ rfl), hc _ _ (h2 2 _ rfl), hc _ _ (h2 3 _ rfl), s1, a4, a5, a1, a2, a3, cur, hb⟩
/-- What was appended tq the fields is stored in the kind's box. -/
theorem MkH.putF {K : MkK} {M : List Nat} {bx : List Box} {rs : List Rw} {L : List (List Nat → World → Prop)} {W : World} {kb : Nat} {e t : TypeId} {a b c fv v : Value} {n : Nat} {fs news : List Fld} {fxs us : List Value}
    (h : MkH K M ((kb, t, #[a, b, c, fv]) :: bx) (⟨e, 8, v, n, fxs ++ us⟩ :: rs) ((fun M W => Flat M W fs fxs) :: L) W) (hu : Flat M W news us) :
    MkH K M ((kb, t, #[a, b, c, v]) :: bx) (⟨e, 8, v, n, fxs ++ us⟩ :: rs) ((fun M W => Flat M W (fs ++ news) (fxs ++ us)) :: L) (W.setCell ⟨kb, 3, none⟩ v) := by
  have h1 := ((h.add (keeps_flat (fs ++ news) (fxs ++ us)) ((h.fact (.head _)).append hu)).less (L' := (fun M W => Flat M W (fs ++ news) (fxs ++ us)) :: L) fun P hP => by
    rcases List.mem_cons.1 hP with rfl | hP
    · exact .head _
    · exact .tail _ (.tail _ hP)).set0 3 v
  exact h1
theorem infoFld : (Tryd.prog.info? 96).map (fun i => (i.zero, i.size, i.bytes)) = some (some (.agg #[.string ⟨#[]⟩, .string ⟨#[]⟩, .string ⟨#[]⟩, .int .i64 0, .int .i64 0, .int .i64 0, .slice none 0 0, .slice none 0 0]), 8, 120) := by kernel_rfl
end Go.Proofs.YtdpcdocaahjeoaaDoor
