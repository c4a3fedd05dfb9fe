/- Bent: a program with something changed. -/
import Derived.Test.YtdpcdocaahjeoaaDoorW44
import Derived.Test.YtdpcdocaahjeoaaDoorM10
namespace Go.Proofs.YtdpcdocaahjeoaaDoor
open Go Go.RowKit
namespace Vm
def nsL : List Int := [-1, 0, 1, 5, 6, 7, 8, 9, 10, 128, 250, 251, 1048576, 1048577, -1048576, -1048577]
/-- What Bent changes, by the way that it takes. -/
def bentI (p : List Ins) (k : Nat) (z nv : Int) (r : Nat) : Nat → List Ins
  | 0 => p.set k (z - 1, (p.getD k (0, 0, 0, 0)).2)
  | 1 => p.set k ((p.getD k (0, 0, 0, 0)).1, nv, (p.getD k (0, 0, 0, 0)).2.2)
  | 2 => p.set k ((p.getD k (0, 0, 0, 0)).1, (p.getD k (0, 0, 0, 0)).2.1, nv, (p.getD k (0, 0, 0, 0)).2.2.2)
  | 3 => p.set k ((p.getD k (0, 0, 0, 0)).1, (p.getD k (0, 0, 0, 0)).2.1, (p.getD k (0, 0, 0, 0)).2.2.1, nv)
  | 4 => p.take k ++ p.drop (k + 1)
  | 5 => (p ++ List.replicate 128 (0, 0, 0, 0)).take (127 + r)
  | _ => p ++ [p.getD k (0, 0, 0, 0)]
def bent (p : List Ins) (at_ how by_ : Int) : List Ins :=
  if p.length = 0 then [(around by_ 11 - 1, 0, 0, 0)] else
  bentI p (around at_ p.length).toNat (around by_ 11) (nsL.getD (around by_ 16).toNat 0) (around by_ 3).toNat (around how 7).toNat
theorem bent_of {p : List Ins} {at_ how by_ : Int} {n k h : Nat} (hn : p.length = n) (h0 : 0 < n) (hk : around at_ (n : Int) = (k : Int)) (hh : around how 7 = (h : Int)) :
    bent p at_ how by_ = bentI p k (around by_ 11) (nsL.getD (around by_ 16).toNat 0) (around by_ 3).toNat h := by
  unfold bent
  rw [if_neg (by omega), hn, hk, hh, Int.toNat_natCast, Int.toNat_natCast]
theorem getD_of {p : List Ins} {k : Nat} {i : Ins} (hk : k < p.length) (h : p[k] = i) : p.getD k (0, 0, 0, 0) = i := by
  rw [List.getD_eq_getElem?_getD, List.getElem?_eq_getElem hk, Option.getD_some, h]
end Vm
/-- What Bent comes to. -/
def BentP (b : List Vm.Ins) (m : Nat) (w : World) (e : Ending) (w' : World) : Prop := ∃ q v, e = .returned v ∧ Rep [] w' (q : List Vm.Ins) v ∧ q.length ≤ m ∧ Below w.heap.size w w' ∧ q = b
theorem bentP_of {m : Nat} {p b : List Vm.Ins} {w W : World} {M : List Nat} {bx : List Box} {L : List (List Nat → World → Prop)} {rs : List Rw} {v : Value} {n : Nat} {xs : List Value} (h : HR w [] M bx (⟨58, 4, v, n, xs⟩ :: rs) L W) (hn : n = p.length) (hx : xs = insVals p) (ha : AllIns p) (hm : p.length ≤ m) (hb : p = b) : BentP b m w (.returned v) W := by
  subst hn hx
  exact ⟨p, v, rfl, Rep.of_own (h.own _ (.head _)) (flat_ins ha) (fun _ _ h => by cases h), hm, h.h.bl, hb⟩
theorem flat_insVals {G : List Nat} {w : World} : ∀ {p : List Vm.Ins} {xs : List Value}, Flat G w p xs → xs = insVals p
  | [], _, h => h
  | _ :: p, _, h => by
    obtain ⟨us, ts, rfl, h1, h2⟩ := h
    obtain ⟨u1, t1, rfl, ⟨rfl, _⟩, u2, t2, rfl, ⟨rfl, _⟩, u3, t3, rfl, ⟨rfl, _⟩, ⟨rfl, _⟩⟩ := h1
    rw [flat_insVals h2]
    rfl
theorem allIns_set {p : List Vm.Ins} {k : Nat} {i : Vm.Ins} (h : AllIns p) (hi : inI i.1 ∧ inI i.2.1 ∧ inI i.2.2.1 ∧ inI i.2.2.2) : AllIns (p.set k i) := fun x hx => by
  rcases List.mem_or_eq_of_mem_set hx with hx | rfl
  · exact h x hx
  · exact hi
theorem allIns_app {p q : List Vm.Ins} (h : AllIns p) (k : AllIns q) : AllIns (p ++ q) := fun x hx => (List.mem_append.1 hx).elim (h x) (k x)
theorem row_cell {w W : World} {M : List Nat} {bx : List Box} {L : List (List Nat → World → Prop)} {rs : List Rw} {e : TypeId} {size n c g : Nat} {xs : List Value} (h : HR w [] M bx (⟨e, size, .slice (some ⟨g, 0, none⟩) n c, n, xs⟩ :: rs) L W) {j : Nat} (hj : j < xs.length) : ∃ u, W.cell? ⟨g, j, none⟩ = some u := by
  by_cases hn : 0 < n
  · exact ⟨_, h.rcell (.head _) hn (List.getElem?_eq_getElem hj)⟩
  · have := (h.own _ (.head _)).1
    simp only at this
    obtain rfl : n = 0 := by omega
    omega
/-- The first k elements of a row. -/
theorem HR.cutRow {w W : World} {M : List Nat} {bx : List Box} {L : List (List Nat → World → Prop)} {rs : List Rw} {e : TypeId} {size n c g k : Nat} {xs : List Value} (h : HR w [] M bx (⟨e, size, .slice (some ⟨g, 0, none⟩) n c, n, xs⟩ :: rs) L W) (hk : k ≤ n) : HR w [] M bx (⟨e, size, .slice (some ⟨g, 0, none⟩) k c, k, xs.take (k * size)⟩ :: rs) L W := by
  have hown := h.own _ (.head _)
  have hap := List.pairwise_cons.1 h.apart
  refine ⟨h.h, fun r hr => ?_, fun r hr => ?_, List.pairwise_cons.2 ⟨fun s hs => hap.1 s hs, hap.2⟩⟩
  · rcases List.mem_cons.1 hr with rfl | hr
    · exact h.ok ⟨e, size, .slice (some ⟨g, 0, none⟩) n c, n, xs⟩ (.head _)
    · exact h.ok r (.tail _ hr)
  · rcases List.mem_cons.1 hr with rfl | hr
    · have hl := hown.1
      simp only at hl
      have hks : k * size ≤ n * size := Nat.mul_le_mul_right _ hk
      refine ⟨by simp only; rw [List.length_take]; omega, ?_⟩
      rcases hown.2 with ⟨h1, _⟩ | ⟨g', cap, cur, h1, h2, h3, h4, h5, h6, h7⟩
      · cases h1
      · injection h1 with h1 _ h1c
        injection h1 with h1
        injection h1 with h1
        subst h1
        refine .inr ⟨g, cap, cur, by simp only; rw [h1c], h2, h3, by simp only at h4 ⊢; omega, h5, h6, ?_⟩
        simp only at h7 ⊢
        rw [← h7, List.take_take, Nat.min_eq_left hks]
    · exact h.own r (.tail _ hr)
theorem row_cap {w W : World} {M : List Nat} {bx : List Box} {L : List (List Nat → World → Prop)} {rs : List Rw} {e : TypeId} {size n c g : Nat} {xs : List Value} (h : HR w [] M bx (⟨e, size, .slice (some ⟨g, 0, none⟩) n c, n, xs⟩ :: rs) L W) : n ≤ c ∧ c ≤ maxLen := by
  rcases (h.own _ (.head _)).2 with ⟨h1, _⟩ | ⟨g', cap, cur, h1, h2, h3, h4, h5, h6, h7⟩
  · cases h1
  · injection h1 with _ _ h1c
    simp only at h4
    omega
theorem insVals_take (p : List Vm.Ins) (k : Nat) : (insVals p).take (k * 4) = insVals (p.take k) := by
  induction p generalizing k with
  | nil => simp [insVals]
  | cons a p ih =>
    cases k with
    | zero => simp [insVals]
    | succ k =>
      rw [show insVals (a :: p) = insCells a ++ insVals p from by simp [insVals], List.take_succ_cons, show insVals (a :: p.take k) = insCells a ++ insVals (p.take k) from by simp [insVals], List.take_append, ← ih k]
      have hl : (insCells a).length = 4 := rfl
      rw [List.take_of_length_le (by omega), hl, show (k + 1) * 4 - 4 = k * 4 by omega]
theorem insVals_drop (p : List Vm.Ins) (k : Nat) : (insVals p).drop (k * 4) = insVals (p.drop k) := by
  induction p generalizing k with
  | nil => simp [insVals]
  | cons a p ih =>
    cases k with
    | zero => simp
    | succ k =>
      rw [show insVals (a :: p) = insCells a ++ insVals p from by simp [insVals], List.drop_succ_cons, List.drop_append, ← ih k]
      have hl : (insCells a).length = 4 := rfl
      rw [List.drop_of_length_le (by omega), hl, show (k + 1) * 4 - 4 = k * 4 by omega, List.nil_append]
theorem ns_at (z : Nat) (h : z < 16) : ∃ x : Int, (#[.int .i64 (-1), .int .i64 0, .int .i64 1, .int .i64 5, .int .i64 6, .int .i64 7, .int .i64 8, .int .i64 9, .int .i64 10, .int .i64 128, .int .i64 250, .int .i64 251, .int .i64 1048576, .int .i64 1048577, .int .i64 (-1048576), .int .i64 (-1048577)] : Array Value)[z]? = some (.int .i64 x) ∧ inI x ∧ x = Vm.nsL.getD z 0 := by
  match z, h with
  | 0, _ | 1, _ | 2, _ | 3, _ | 4, _ | 5, _ | 6, _ | 7, _ | 8, _ | 9, _ | 10, _ | 11, _ | 12, _ | 13, _ | 14, _ | 15, _ => exact ⟨_, rfl, by unfold inI; decide, rfl⟩
  | n + 16, h => exact absurd h (by omega)
set_option maxRecDepth 100000 in
set_option maxHeartbeats 16000000 in
theorem bent_any (p : List Vm.Ins) (A : Option Addr) (c : Nat) (at_ how by_ : Int) (w : World) (hp : SlAt [] w A p) (hm : p.length ≤ 1000) (h1 : inI at_) (h2 : inI how) (h3 : inI by_) :
    Calls Tryd.prog 12 #[.slice A p.length c, .int .i64 at_, .int .i64 how, .int .i64 by_] w (BentP (Vm.bent p at_ how by_) (p.length + 128) w) := by
  obtain ⟨xs, hrd, hfl⟩ := hp.reads
  obtain rfl := flat_insVals hfl
  have HAL := Lib.hid hp.allIns
  obtain ⟨n, hn⟩ : ∃ n, p.length = n := ⟨_, rfl⟩
  rw [hn] at hrd hm ⊢
  have HN := Lib.hid hn
  have HRD := Lib.hid hrd
  have H0 := Lib.hid ((HR.start (held0 w [] (fun _ h => by cases h))).push 58 4)
  have CB := Lib.hid (fun (m : Int) W => around_any by_ m W h3.1 h3.2)
  have HBB := Lib.hid (fun (m : Int) (h : 1 ≤ m) => around_bd by_ m h)
  have CA := Lib.hid (fun W => around_any at_ (n : Int) W h1.1 h1.2)
  have CH := Lib.hid (fun W => around_any how 7 W h2.1 h2.2)
  have hh := around_bd how 7 (by omega)
  have hab : 1 ≤ n → 0 ≤ around at_ (n : Int) ∧ around at_ (n : Int) < n := fun h => around_bd at_ (n : Int) (by omega)
  obtain ⟨h, hhe⟩ : ∃ z, around how 7 = z := ⟨_, rfl⟩
  obtain ⟨ka, hka⟩ : ∃ z, around at_ (n : Int) = z := ⟨_, rfl⟩
  rw [hhe] at CH hh
  rw [hka] at CA hab
  obtain ⟨hh1, hh2⟩ := hh
  have HAB := Lib.hid hab
  have hby11 := HBB.out 11 (by omega)
  obtain ⟨z11, hz11⟩ : ∃ z, around by_ 11 = z := ⟨_, rfl⟩
  have C11 := Lib.hid (CB.out 11)
  rw [hz11] at C11 hby11
  obtain ⟨hz1, hz2⟩ := hby11
  have HHE := Lib.hid hhe
  have HKA := Lib.hid hka
  have HZ11 := Lib.hid hz11
  obtain ⟨bq, hbq⟩ : ∃ z, Vm.bent p at_ how by_ = z := ⟨_, rfl⟩
  rw [hbq]
  have HBQ := Lib.hid hbq
  clear hp hfl hrd hn h1 h2 h3 hhe hka hab hz11 hbq
  go_enter Tryd.func12, Tryd.ntmps12
  go_upto_region 3 with (at_builtin; obtain ⟨i0, hI, hz0, hz1, hz2⟩ := info_parts infoRIns; refine wpList_append_rows (by rfl) _ _ 32 (by rfl) 58 i0 _ 4 32 Tryd.underlying32 hI hz0 hz1 hz2 rfl (by decide) H0.out (by rfl) _ _ n c (insVals p) (by rfl) (HRD.out) (insVals_one _) (by unfold maxLen; omega) (by omega) ?_; intro v5 w5 M5 h5 _; obtain ⟨A9, c9, rfl⟩ := h5.form (.head _); rw [List.nil_append, Nat.zero_add] at h5; have H := Lib.hid h5; clear h5 hI hz0 hz1 hz2)
  clear HRD H0
  by_cases hn0 : n = 0
  · subst hn0
    obtain rfl : p = [] := List.eq_nil_of_length_eq_zero HN.out
    go_wp2_with (first | (go_at_call 13; ((with_reducible refine (C11.out _).mono ?_)); rintro e w3 ⟨rfl, rfl⟩) | (at_builtin; obtain ⟨i0, hI, hz0, hz1, hz2⟩ := info_parts infoRIns; refine wpList_append_rows (by rfl) _ _ 32 (by rfl) 58 i0 _ 4 32 Tryd.underlying32 hI hz0 hz1 hz2 rfl (by decide) (H.out.below ((Below.refl _ _).alloc (Nat.le_refl _) _)) (by rfl) _ _ 1 1 [.int .i64 (z11 - 1), .int .i64 0, .int .i64 0, .int .i64 0] (by rfl) (reads_blk (Blk.new _ _ _) rfl) (by simp [Value.oneCell']) (by unfold maxLen; omega) (by omega) ?_; intro v5 w5 M5 h5 _; obtain ⟨A7, c7, rfl⟩ := h5.form (.head _); have H7 := Lib.hid h5; clear h5 hI hz0 hz1 hz2))
    go_ret
    exact bentP_of H7.out (p := [(z11 - 1, 0, 0, 0)]) rfl rfl (fun i hi => by simp only [List.mem_singleton] at hi; subst hi; unfold inI; simp only; omega) (by simp) (by rw [← HBQ.out]; unfold Vm.bent; rw [if_pos (show ([] : List Vm.Ins).length = 0 from rfl), HZ11.out])
  · have t0 : ((n : Int) == 0) = false := by rw [beq_eq_false_iff_ne]; omega
    have hn1 : 0 < n := by omega
    obtain ⟨hka1, hka2⟩ := HAB.out (by omega)
    obtain ⟨k, rfl⟩ : ∃ z : Nat, ka = z := ⟨ka.toNat, by omega⟩
    have hkn : k < n := by omega
    have k1 : (k : Int) < (n : Int) := hka2
    have hkp : k < p.length := by rw [HN.out]; exact hkn
    obtain ⟨g9, rfl⟩ := H.out.rform (.head _) hn1
    have hz16 := HBB.out 16 (by omega)
    obtain ⟨z16, hz16e⟩ : ∃ z : Nat, around by_ 16 = z := ⟨(around by_ 16).toNat, by omega⟩
    have C16 := Lib.hid (CB.out 16)
    rw [hz16e] at C16 hz16
    have HZ16 := Lib.hid hz16e
    obtain ⟨nv, hnv0, hnv, hnve⟩ := ns_at z16 (by omega)
    have HNV := Lib.hid (show Vm.nsL.getD (around by_ 16).toNat 0 = nv by rw [HZ16.out, hnve]; rfl)
    have k16 : (z16 : Int) < 16 := hz16.2
    have q := (Blk.new w5 3 #[.int .i64 (-1), .int .i64 0, .int .i64 1, .int .i64 5, .int .i64 6, .int .i64 7, .int .i64 8, .int .i64 9, .int .i64 10, .int .i64 128, .int .i64 250, .int .i64 251, .int .i64 1048576, .int .i64 1048577, .int .i64 (-1048576), .int .i64 (-1048577)]).cell z16
    rw [hnv0] at q
    clear hnv0 hnve hz16 hz16e hn0
    go_upto_region 7 with (first | (go_at_call 13; ((with_reducible refine (CA.out _).mono ?_)); rintro e w3 ⟨rfl, rfl⟩) | (go_at_call 13; ((with_reducible refine (C16.out _).mono ?_)); rintro e w3 ⟨rfl, rfl⟩))
    have H2 := Lib.hid (H.out.below ((Below.refl _ _).alloc (Nat.le_refl _) (.cells #[.int .i64 (-1), .int .i64 0, .int .i64 1, .int .i64 5, .int .i64 6, .int .i64 7, .int .i64 8, .int .i64 9, .int .i64 10, .int .i64 128, .int .i64 250, .int .i64 251, .int .i64 1048576, .int .i64 1048577, .int .i64 (-1048576), .int .i64 (-1048577)] 3)))
    clear H q t0 k16
    generalize hW : w5.alloc _ = W at H2 ⊢
    clear hW
    have H := H2
    clear H2
    obtain ⟨i9, hi9⟩ : ∃ i, p[k] = i := ⟨_, rfl⟩
    have HI9 := Lib.hid hi9
    clear hi9
    go_upto_region 9 with (go_at_call 13; ((with_reducible refine (CH.out _).mono ?_)); rintro e w3 ⟨rfl, rfl⟩)
    rcases (show h = 0 ∨ h = 1 ∨ h = 2 ∨ h = 3 ∨ h = 4 ∨ h = 5 ∨ h = 6 by omega) with rfl | rfl | rfl | rfl | rfl | rfl | rfl
    · obtain ⟨o9, a9, b9, c9'⟩ := i9
      have hs := H.out.setRow (.int .i64 (z11 - 1)) (k := k * 4) (by omega)
      have es := Vm.insVals_set (t := 0) (u := .int .i64 (z11 - 1)) (i' := (z11 - 1, a9, b9, c9')) hkp (by rw [HI9.out]; rfl) (by decide)
      (try rw [Nat.add_zero] at es)
      rw [es] at hs
      have T5 := Lib.hid hs
      have f5 := H.out.rfroz (.head _) (by omega) (k * 4)
      have HF5 := Lib.hid (show AllIns (p.set k (z11 - 1, a9, b9, c9')) from allIns_set HAL.out (by have := HAL.out _ (List.getElem_mem hkp); rw [HI9.out] at this; obtain ⟨g1, g2, g3, g4⟩ := this; exact ⟨(show inI (z11 - 1) by unfold inI; omega), g2, g3, g4⟩))
      obtain ⟨y5, q5⟩ := row_cell (H.out) (j := k * 4) (by rw [insVals_length]; omega)
      clear hs es
      go_wp2_with (go_at_call 13; ((with_reducible refine (C11.out _).mono ?_)); rintro e w3 ⟨rfl, rfl⟩)
      go_ret
      exact bentP_of T5.out (by rw [List.length_set, HN.out]) rfl HF5.out (by rw [List.length_set, HN.out]; omega) (by rw [← HBQ.out, Vm.bent_of (h := 0) HN.out hn1 HKA.out HHE.out, HZ11.out]; unfold Vm.bentI; rw [Vm.getD_of hkp HI9.out]; rfl)
    · obtain ⟨o9, a9, b9, c9'⟩ := i9
      have hs := H.out.setRow (.int .i64 nv) (k := k * 4 + 1) (by omega)
      have es := Vm.insVals_set (t := 1) (u := .int .i64 nv) (i' := (o9, nv, b9, c9')) hkp (by rw [HI9.out]; rfl) (by decide)
      (try rw [Nat.add_zero] at es)
      rw [es] at hs
      have T5 := Lib.hid hs
      have f5 := H.out.rfroz (.head _) (by omega) (k * 4 + 1)
      have HF5 := Lib.hid (show AllIns (p.set k (o9, nv, b9, c9')) from allIns_set HAL.out (by have := HAL.out _ (List.getElem_mem hkp); rw [HI9.out] at this; obtain ⟨g1, g2, g3, g4⟩ := this; exact ⟨g1, hnv, g3, g4⟩))
      obtain ⟨y5, q5⟩ := row_cell (H.out) (j := k * 4 + 1) (by rw [insVals_length]; omega)
      clear hs es
      go_wp2_with fail
      go_ret
      exact bentP_of T5.out (by rw [List.length_set, HN.out]) rfl HF5.out (by rw [List.length_set, HN.out]; omega) (by rw [← HBQ.out, Vm.bent_of (h := 1) HN.out hn1 HKA.out HHE.out, HNV.out]; unfold Vm.bentI; rw [Vm.getD_of hkp HI9.out]; rfl)
    · obtain ⟨o9, a9, b9, c9'⟩ := i9
      have hs := H.out.setRow (.int .i64 nv) (k := k * 4 + 2) (by omega)
      have es := Vm.insVals_set (t := 2) (u := .int .i64 nv) (i' := (o9, a9, nv, c9')) hkp (by rw [HI9.out]; rfl) (by decide)
      (try rw [Nat.add_zero] at es)
      rw [es] at hs
      have T5 := Lib.hid hs
      have f5 := H.out.rfroz (.head _) (by omega) (k * 4 + 2)
      have HF5 := Lib.hid (show AllIns (p.set k (o9, a9, nv, c9')) from allIns_set HAL.out (by have := HAL.out _ (List.getElem_mem hkp); rw [HI9.out] at this; obtain ⟨g1, g2, g3, g4⟩ := this; exact ⟨g1, g2, hnv, g4⟩))
      obtain ⟨y5, q5⟩ := row_cell (H.out) (j := k * 4 + 2) (by rw [insVals_length]; omega)
      clear hs es
      go_wp2_with fail
      go_ret
      exact bentP_of T5.out (by rw [List.length_set, HN.out]) rfl HF5.out (by rw [List.length_set, HN.out]; omega) (by rw [← HBQ.out, Vm.bent_of (h := 2) HN.out hn1 HKA.out HHE.out, HNV.out]; unfold Vm.bentI; rw [Vm.getD_of hkp HI9.out]; rfl)
    · obtain ⟨o9, a9, b9, c9'⟩ := i9
      have hs := H.out.setRow (.int .i64 nv) (k := k * 4 + 3) (by omega)
      have es := Vm.insVals_set (t := 3) (u := .int .i64 nv) (i' := (o9, a9, b9, nv)) hkp (by rw [HI9.out]; rfl) (by decide)
      (try rw [Nat.add_zero] at es)
      rw [es] at hs
      have T5 := Lib.hid hs
      have f5 := H.out.rfroz (.head _) (by omega) (k * 4 + 3)
      have HF5 := Lib.hid (show AllIns (p.set k (o9, a9, b9, nv)) from allIns_set HAL.out (by have := HAL.out _ (List.getElem_mem hkp); rw [HI9.out] at this; obtain ⟨g1, g2, g3, g4⟩ := this; exact ⟨g1, g2, g3, hnv⟩))
      obtain ⟨y5, q5⟩ := row_cell (H.out) (j := k * 4 + 3) (by rw [insVals_length]; omega)
      clear hs es
      go_wp2_with fail
      go_ret
      exact bentP_of T5.out (by rw [List.length_set, HN.out]) rfl HF5.out (by rw [List.length_set, HN.out]; omega) (by rw [← HBQ.out, Vm.bent_of (h := 3) HN.out hn1 HKA.out HHE.out, HNV.out]; unfold Vm.bentI; rw [Vm.getD_of hkp HI9.out]; rfl)
    · obtain ⟨hc1, hc2⟩ := row_cap H.out
      have k2 : (k : Int) ≤ (c9 : Int) := by omega
      have k3 : (0 : Int) ≤ (k : Int) := by omega
      have k4 : (k : Int) + 1 ≤ (n : Int) := by omega
      by_cases hck : c9 = k + 1
      · obtain rfl : n = k + 1 := by omega
        subst hck
        go_wp2_with fail
        apply wp_region_typed (C := fun w' => HR w [] M5 [] [⟨58, 4, .slice (some ⟨g9, 0, none⟩) (k + 1) (k + 1), k + 1, insVals p⟩] [] w') (n := 105) (m := 7) (l1 := [_, _, _, _, _, _, _]) (l2 := [_, _])
        · rfl
        · rfl
        · kernel_rfl
        · rfl
        · kernel_rfl
        · exact H.out.drew
        · exact fun u u' h hb => (by first | exact h.below hb | exact h.trans (hb.mono h.size))
        iterate 7 ((apply wpT_exact; · (intro w' hC hf; unfold Gives; clear hf hC; go_wp2_with (fail); apply postT_val rfl (Below.refl _ _); simp only [valAt, Array.getD_eq_getD_getElem?, List.getElem?_toArray, List.getElem?_cons_succ, List.getElem?_cons_zero, Option.getD_some]; exact rfl)); (try simp only [Act.put, List.setIfInBounds_toArray, List.set_cons_zero, List.set_cons_succ]))
        apply wpT_done
        intro w4 hC hall
        have hrd := (Reads.of_own (hC.own _ (.head _))).cut (k := k + 1) (cap := k + 1) (by omega) hc1
        dsimp only at hrd
        rw [if_pos rfl, insVals_drop, Nat.sub_self] at hrd
        have hcut := hC.cutRow (k := k) (by omega)
        rw [insVals_take] at hcut
        obtain ⟨i0, hI, hz0, hz1, hz2⟩ := info_parts infoRIns
        refine wpList_append_rows (by rfl) _ _ 32 (by rfl) 58 i0 _ 4 32 Tryd.underlying32 hI hz0 hz1 hz2 rfl (by decide) hcut (by rfl) _ _ 0 _ (insVals (p.drop (k + 1))) (by rfl) hrd (insVals_one _) (by unfold maxLen; omega) (by omega) ?_
        intro v5 w5' M7 h5 _
        rw [insVals_append] at h5
        obtain ⟨A7, c7', rfl⟩ := h5.form (.head _)
        have H7 := Lib.hid h5
        clear h5 hrd hcut hC hall hI hz0 hz1 hz2 H
        go_wp2_with fail
        go_ret
        exact bentP_of H7.out (by rw [List.length_append, List.length_take, List.length_drop, HN.out]; omega) rfl (allIns_app (fun x hx => HAL.out x (List.mem_of_mem_take hx)) (fun x hx => HAL.out x (List.mem_of_mem_drop hx))) (by rw [List.length_append, List.length_take, List.length_drop, HN.out]; omega) (by rw [← HBQ.out, Vm.bent_of (h := 4) HN.out (by omega) HKA.out HHE.out]; rfl)
      · have hck2 : ¬ c9 = k + 1 := hck
        clear hck
        go_wp2_with fail
        apply wp_region_typed (C := fun w' => HR w [] M5 [] [⟨58, 4, .slice (some ⟨g9, 0, none⟩) n c9, n, insVals p⟩] [] w') (n := 105) (m := 7) (l1 := [_, _, _, _, _, _, _]) (l2 := [_, _])
        · rfl
        · rfl
        · kernel_rfl
        · rfl
        · kernel_rfl
        · exact H.out.drew
        · exact fun u u' h hb => (by first | exact h.below hb | exact h.trans (hb.mono h.size))
        iterate 7 ((apply wpT_exact; · (intro w' hC hf; unfold Gives; clear hf hC; go_wp2_with (fail); apply postT_val rfl (Below.refl _ _); simp only [valAt, Array.getD_eq_getD_getElem?, List.getElem?_toArray, List.getElem?_cons_succ, List.getElem?_cons_zero, Option.getD_some]; exact rfl)); (try simp only [Act.put, List.setIfInBounds_toArray, List.set_cons_zero, List.set_cons_succ]))
        apply wpT_done
        intro w4 hC hall
        have hrd := (Reads.of_own (hC.own _ (.head _))).cut (k := k + 1) (cap := c9) (by omega) hc1
        dsimp only at hrd
        rw [if_neg hck2, Option.map_some, Addr.add_lit, Nat.zero_add, insVals_drop] at hrd
        have hcut := hC.cutRow (k := k) (by omega)
        rw [insVals_take] at hcut
        obtain ⟨i0, hI, hz0, hz1, hz2⟩ := info_parts infoRIns
        refine wpList_append_rows (by rfl) _ _ 32 (by rfl) 58 i0 _ 4 32 Tryd.underlying32 hI hz0 hz1 hz2 rfl (by decide) hcut (by rfl) _ _ (n - (k + 1)) _ (insVals (p.drop (k + 1))) (by rfl) hrd (insVals_one _) (by unfold maxLen; omega) (by omega) ?_
        intro v5 w5' M7 h5 _
        rw [insVals_append] at h5
        obtain ⟨A7, c7', rfl⟩ := h5.form (.head _)
        have H7 := Lib.hid h5
        clear h5 hrd hcut hC hall hI hz0 hz1 hz2 H
        go_wp2_with fail
        go_ret
        exact bentP_of H7.out (by rw [List.length_append, List.length_take, List.length_drop, HN.out]; omega) rfl (allIns_app (fun x hx => HAL.out x (List.mem_of_mem_take hx)) (fun x hx => HAL.out x (List.mem_of_mem_drop hx))) (by rw [List.length_append, List.length_take, List.length_drop, HN.out]; omega) (by rw [← HBQ.out, Vm.bent_of (h := 4) HN.out (by omega) HKA.out HHE.out]; rfl)
    · go_wp2_with fail
      go_loopg [9, 12] 128 (fun r v9 v12 wr => ∃ (j : Nat) (M : List Nat), j + r = 128 ∧ v12 = .int .i64 j ∧ HR w [] M [] [⟨58, 4, v9, n + j, insVals (p ++ List.replicate j (0, 0, 0, 0))⟩] [] wr)
      case atStart => exact ⟨0, _, by omega, rfl, by simp; exact H.out⟩
      case round =>
        obtain ⟨j, M6, hj, rfl, HT⟩ := hrel
        clear H
        obtain ⟨wo, rfl⟩ : ∃ wo : World, wo = wr := ⟨_, rfl⟩
        obtain ⟨A8, c8, rfl⟩ := HT.form (.head _)
        have H := Lib.hid HT
        clear HT
        by_cases hlt : j < 128
        · have k2 : (j : Int) < 128 := by omega
          go_wp2_with (at_builtin; obtain ⟨i0, hI, hz0, hz1, hz2⟩ := info_parts infoRIns; refine wpList_append_rows (by rfl) _ _ 32 (by rfl) 58 i0 _ 4 32 Tryd.underlying32 hI hz0 hz1 hz2 rfl (by decide) (H.out.below ((Below.refl _ _).alloc (Nat.le_refl _) _)) (by rfl) _ _ 1 1 [.int .i64 0, .int .i64 0, .int .i64 0, .int .i64 0] (by rfl) (reads_blk (Blk.new _ _ _) rfl) (by simp [Value.oneCell']) (by unfold maxLen; omega) (by omega) ?_; intro v5 w5 M5 h5 _; obtain ⟨A7, c7, rfl⟩ := h5.form (.head _); have H7 := Lib.hid h5; clear h5 hI hz0 hz1 hz2)
          go_roundg (gk - 1)
          case measure => omega
          case rel =>
            refine ⟨j + 1, M5, by omega, by go_num, ?_⟩
            have e : insVals (p ++ List.replicate (j + 1) (0, 0, 0, 0)) = insVals (p ++ List.replicate j (0, 0, 0, 0)) ++ [.int .i64 0, .int .i64 0, .int .i64 0, .int .i64 0] := by
              rw [List.replicate_succ', ← List.append_assoc, insVals_snoc]; rfl
            rw [e]
            exact H7.out
        · obtain rfl : j = 128 := by omega
          obtain ⟨g8, rfl⟩ := H.out.rform (.head _) (by omega)
          obtain ⟨hc1, hc2⟩ := row_cap H.out
          have hr3 := HBB.out 3 (by omega)
          obtain ⟨r3, hr3e⟩ : ∃ z : Nat, around by_ 3 = z := ⟨(around by_ 3).toNat, by omega⟩
          have C3 := Lib.hid (CB.out 3)
          have HR3 := Lib.hid hr3e
          rw [hr3e] at C3 hr3
          have HNN := Lib.hid (show ((n + 128 : Nat) : Int) - 126 = ((n + 2 : Nat) : Int) by omega)
          obtain ⟨N, hN⟩ : ∃ z, n + 128 = z := ⟨_, rfl⟩
          rw [hN] at H hc1
          obtain ⟨N2, hN2⟩ : ∃ z, n + 2 = z := ⟨_, rfl⟩
          have e1 : (n : Int) + 128 - 126 = (N2 : Int) := by omega
          have e1b : (N : Int) - 126 = (N2 : Int) := by omega
          have e2 : (1 : Int) ≤ (N2 : Int) := by omega
          have e3 : (r3 : Int) % (N2 : Int) = (r3 : Int) := Int.emod_eq_of_lt (by omega) (by omega)
          obtain ⟨jj, hjj⟩ : ∃ z, 127 + r3 = z := ⟨_, rfl⟩
          have e6 : 127 + (r3 : Int) = (jj : Int) := by omega
          have e4 : (0 : Int) ≤ (jj : Int) := by omega
          have e5 : (jj : Int) ≤ (c8 : Int) := by omega
          have e7 : (N2 : Int) ≠ 0 := by omega
          have e8 : (jj : Int) ≤ 2000 := by omega
          have hjl : jj ≤ n + 128 := by omega
          have hct := H.out.cutRow (k := jj) (by omega)
          rw [insVals_take] at hct
          have HCT := Lib.hid hct
          have HJJ := Lib.hid hjj
          clear hct hjj hN hN2
          clear hr3 hr3e
          go_wp2_with (go_at_call 13; ((with_reducible refine (C3.out _).mono ?_)); rintro e w3 ⟨rfl, rfl⟩)
          go_ret
          exact bentP_of HCT.out (p := (p ++ List.replicate 128 ((0, 0, 0, 0) : Vm.Ins)).take jj) (by simp only [List.length_take, List.length_append, List.length_replicate, HN.out]; omega) rfl (fun x hx => allIns_app HAL.out (fun y hy => by rw [List.eq_of_mem_replicate hy]; unfold inI; simp) x (List.mem_of_mem_take hx)) (by rw [List.length_take, List.length_append, List.length_replicate, HN.out]; omega) (by rw [← HBQ.out, Vm.bent_of (h := 5) HN.out hn1 HKA.out HHE.out]; unfold Vm.bentI; rw [HR3.out, Int.toNat_natCast, HJJ.out]; try rfl)
    · obtain ⟨o9, a9, b9, c9'⟩ := i9
      have hat : p[k]? = some (o9, a9, b9, c9') := by rw [List.getElem?_eq_getElem hkp, HI9.out]
      have q0 := H.out.rcell (.head _) hn1 (Vm.insVals_at hat (t := 0) (u := .int .i64 o9) rfl)
      have q1 := H.out.rcell (.head _) hn1 (Vm.insVals_at hat (t := 1) (u := .int .i64 a9) rfl)
      have q2 := H.out.rcell (.head _) hn1 (Vm.insVals_at hat (t := 2) (u := .int .i64 b9) rfl)
      have q3 := H.out.rcell (.head _) hn1 (Vm.insVals_at hat (t := 3) (u := .int .i64 c9') rfl)
      rw [Nat.add_zero] at q0
      have HAI := Lib.hid (show AllIns (p ++ [(o9, a9, b9, c9')]) from allIns_app HAL.out (fun x hx => by rw [List.mem_singleton] at hx; subst hx; rw [← HI9.out]; exact HAL.out _ (List.getElem_mem hkp)))
      clear hat
      go_wp2_with (at_builtin; obtain ⟨i0, hI, hz0, hz1, hz2⟩ := info_parts infoRIns; refine wpList_append_rows (by rfl) _ _ 32 (by rfl) 58 i0 _ 4 32 Tryd.underlying32 hI hz0 hz1 hz2 rfl (by decide) (H.out.below ((Below.refl _ _).alloc (Nat.le_refl _) _)) (by rfl) _ _ 1 1 (insCells (o9, a9, b9, c9')) (by rfl) (reads_blk (Blk.new _ _ _) rfl) (insCells_one _) (by unfold maxLen; omega) (by omega) ?_; intro v5 w5 M5 h5 _; obtain ⟨A7, c7, rfl⟩ := h5.form (.head _); rw [← insVals_snoc] at h5; have H7 := Lib.hid h5; clear h5 hI hz0 hz1 hz2)
      go_ret
      exact bentP_of H7.out (by rw [List.length_append, HN.out]; rfl) rfl HAI.out (by rw [List.length_append, HN.out]; simp) (by rw [← HBQ.out, Vm.bent_of (h := 6) HN.out hn1 HKA.out HHE.out]; unfold Vm.bentI; rw [Vm.getD_of hkp HI9.out]; rfl)
end Go.Proofs.YtdpcdocaahjeoaaDoor
