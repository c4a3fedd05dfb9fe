/- Moments of the calendar: the closure that tries one moment. -/
import Derived.Test.YtlfgjpidamkpdaaDoorW13
import Derived.Test.YtlfgjpidamkpdaaDoorMem3
namespace Go.Proofs.YtlfgjpidamkpdaaDoor
open Go.RowKit
theorem int_info : (Tryd.prog.info? 3).map (fun i => (i.zero, i.size, i.bytes)) = some (some (.int .i64 0), 1, 8) := by kernel_rfl
/-- Between the tries: the blocks of the call's own. -/
structure MSt (w0 w : World) (day mi o s f t : Int) (bo : Nat) (L : List Int) : Prop where
  below : Below w0.heap.size w0 w
  hd : Blk w w0.heap.size 3 #[.int .i64 day]
  hm : Blk w (w0.heap.size + 1) 3 #[.int .i64 mi]
  hz : Blk w (w0.heap.size + 2) 39 #[.int .i64 o, .int .i64 s, .int .i64 f, .int .i64 t]
  ge : w0.heap.size + 3 ≤ bo
  out : ∃ v, Blk w bo 23 #[v] ∧ w.ownsRow (bo + 1) 3 1 v L.length (intVals L)
theorem MSt.step {w0 w w' : World} {day mi o s f t : Int} {bo : Nat} {L : List Int} (h : MSt w0 w day mi o s f t bo L) (hb : Below w.heap.size w w') : MSt w0 w' day mi o s f t bo L := by
  obtain ⟨h1, h2, h3, h4, h5, v, h6, h7⟩ := h
  exact ⟨h1.trans (hb.mono h1.size), h2.below hb h2.lt, h3.below hb h3.lt, h4.below hb h4.lt, h5, v, h6.below hb h6.lt, h7.kept (row := none) ⟨hb.os, hb.tape, hb.output, hb.size, fun i hi _ => hb.block i hi⟩ (by cases v <;> simp [Value.ownBlock]; rename_i a _ _; cases a <;> simp)⟩
noncomputable def hitB (n day mi o s f t : Int) : Bool := decide ((loc n o s f t).2.2 = 0) && decide ((loc n o s f t).1 = day) && decide ((loc n o s f t).2.1 = mi)
noncomputable def tryL (n day mi o s f t : Int) (L : List Int) : List Int := if hitB n day mi o s f t && !L.contains n then L ++ [n] else L
set_option maxHeartbeats 4000000 in
theorem try_no (n day mi o s f t : Int) (bo : Nat) (L : List Int) (w0 w : World) (hn1 : -9223372036854775808 ≤ n) (hn2 : n ≤ 9223372036854775807) (hs : MSt w0 w day mi o s f t bo L)
    (E D M : Int) (hE : Hid (loc n o s f t = (D, M, E)))
    (hh : (E == 0) = false ∨ ((E == 0) = true ∧ (D == day) = false) ∨ ((E == 0) = true ∧ (D == day) = true ∧ (M == mi) = false)) :
    Calls Tryd.prog 52 #[.int .i64 n, .pointer (some ⟨w0.heap.size + 2, 0, none⟩), .pointer (some ⟨w0.heap.size, 0, none⟩), .pointer (some ⟨w0.heap.size + 1, 0, none⟩), .pointer (some ⟨bo, 0, none⟩)] w fun e w' => e = .returned (.tuple #[]) ∧ MSt w0 w' day mi o s f t bo L := by
  have cz := hs.hz.cell
  have z0 := cz 0; have z1 := cz 1; have z2 := cz 2; have z3 := cz 3
  have zd := hs.hd.cell 0
  have zm := hs.hm.cell 0
  simp at z0 z1 z2 z3 zd zm
  clear cz
  rcases hh with h1 | ⟨h1, h2⟩ | ⟨h1, h2, h3⟩
  all_goals
    go_enter Tryd.func52, Tryd.ntmps52
    go_wp2_with (go_at_call 26; refine (local_any _ _ _ _ _ _ (by omega) (by omega)).mono ?_; rintro e w1 ⟨rfl, hb1⟩; rw [hE.out]; have hs1 := hs.step hb1; have zd1 := hs1.hd.cell 0; have zm1 := hs1.hm.cell 0; simp at zd1 zm1)
    go_end0
    exact ⟨rfl, hs1⟩
theorem MSt.own {w0 w : World} {day mi o s f t : Int} {bo : Nat} {L : List Int} (h : MSt w0 w day mi o s f t bo L) : ∃ A c, w.cell? ⟨bo, 0, none⟩ = some (.slice A L.length c) ∧ w.frozen? ⟨bo, 0, none⟩ = false ∧ w.ownsRow (bo + 1) 3 1 (.slice A L.length c) L.length (intVals L) ∧ Blk w bo 23 #[.slice A L.length c] := by
  obtain ⟨v, h6, h7⟩ := h.out
  obtain ⟨A, c, rfl⟩ := own_form h7
  exact ⟨A, c, h6.cell 0, h6.frozen 0, h7, h6⟩
set_option maxHeartbeats 4000000 in
theorem try_again (n day mi o s f t : Int) (bo : Nat) (L : List Int) (w0 w : World) (hn1 : -9223372036854775808 ≤ n) (hn2 : n ≤ 9223372036854775807) (hs : MSt w0 w day mi o s f t bo L) (hL : L.length ≤ 2)
    (hE : Hid (loc n o s f t = (day, mi, 0))) (hc : Hid (L.contains n = true)) :
    Calls Tryd.prog 52 #[.int .i64 n, .pointer (some ⟨w0.heap.size + 2, 0, none⟩), .pointer (some ⟨w0.heap.size, 0, none⟩), .pointer (some ⟨w0.heap.size + 1, 0, none⟩), .pointer (some ⟨bo, 0, none⟩)] w fun e w' => e = .returned (.tuple #[]) ∧ MSt w0 w' day mi o s f t bo L := by
  have cz := hs.hz.cell
  have z0 := cz 0; have z1 := cz 1; have z2 := cz 2; have z3 := cz 3
  simp at z0 z1 z2 z3
  clear cz
  go_enter Tryd.func52, Tryd.ntmps52
  go_wp2_with (first
    | (go_at_call 26; refine (local_any _ _ _ _ _ _ (by omega) (by omega)).mono ?_; rintro e w1 ⟨rfl, hb1⟩; rw [hE.out]; have hs1 := hs.step hb1; have zd1 := hs1.hd.cell 0; have zm1 := hs1.hm.cell 0; simp at zd1 zm1; obtain ⟨A, c, zo1, zf1, hown1, hblk1⟩ := hs1.own; clear hblk1)
    | (go_at_call 53; refine (contains_any _ _ (own_ints hown1) (by omega)).mono ?_; rintro e w2 ⟨rfl, rfl⟩; rw [hc.out]))
  go_end0
  exact ⟨rfl, hs1⟩
theorem own_ne {w : World} {bo : Nat} {e : TypeId} {n : Nat} {v : Value} {xs : List Value} (h : w.ownsRow (bo + 1) e 1 v n xs) : some bo ≠ v.ownBlock := by
  intro he
  have := (h.lt bo he.symm).1
  omega
theorem reads_lit (w : World) (e : TypeId) (u : Value) : Reads (w.alloc (.cells #[u] e)) (w.heap.size + 1) 1 (some ⟨w.heap.size, 0, none⟩) 1 [u] :=
  (Reads.of_own (own_lit (w := w) (base := 0) u (Nat.zero_le _))).more (by simp)
/-- The same without the list: what is kept while the list is appended to. -/
structure MSt' (w0 w : World) (day mi o s f t : Int) (bo : Nat) : Prop where
  below : Below w0.heap.size w0 w
  hd : Blk w w0.heap.size 3 #[.int .i64 day]
  hm : Blk w (w0.heap.size + 1) 3 #[.int .i64 mi]
  hz : Blk w (w0.heap.size + 2) 39 #[.int .i64 o, .int .i64 s, .int .i64 f, .int .i64 t]
  ge : w0.heap.size + 3 ≤ bo
  out : ∃ u, Blk w bo 23 #[u]
theorem MSt.grown_alloc {w0 w w2 : World} {day mi o s f t : Int} {bo : Nat} {L : List Int} {ob : Obj} {A : Option Addr} {k c : Nat} (h : MSt w0 w day mi o s f t bo L)
    (hg : (w.alloc ob).grownBy w2 (Value.slice A k c).ownBlock) (_hne : some bo ≠ (Value.slice A k c).ownBlock) (hown : w.ownsRow (bo + 1) 3 1 (.slice A k c) k (intVals L)) : MSt' w0 w2 day mi o s f t bo := by
  obtain ⟨h1, h2, h3, h4, h5, v, h6, h7⟩ := h
  have hlt : ∀ g, g ≤ bo → some g ≠ (Value.slice A k c).ownBlock := fun g hg he => by
    have := (hown.lt g he.symm).1
    omega
  exact ⟨(h1.alloc h1.size _).grown hg (by have := h1.size; simp; omega) (fun g he => by have := (hown.lt g he).1; omega),
    (h2.alloc ob).grown hg (hlt _ (by omega)), (h3.alloc ob).grown hg (hlt _ (by omega)), (h4.alloc ob).grown hg (hlt _ (by omega)), h5, v, (h6.alloc ob).grown hg (hlt _ (by omega))⟩
theorem MSt'.put {w0 w : World} {day mi o s f t n : Int} {bo : Nat} {L : List Int} {A : Option Addr} {k c : Nat} (h : MSt' w0 w day mi o s f t bo)
    (hown : w.ownsRow (bo + 1) 3 1 (.slice A k c) (L.length + 1) (intVals L ++ [.int .i64 n])) : MSt w0 (w.setCell ⟨bo, 0, none⟩ (.slice A k c)) day mi o s f t bo (L ++ [n]) := by
  obtain ⟨h1, h2, h3, h4, h5, u, h6⟩ := h
  refine ⟨h1.setCell (by simp; omega) _, h2.far (p := ⟨bo, 0, none⟩) (by simp; omega) _, h3.far (p := ⟨bo, 0, none⟩) (by simp; omega) _, h4.far (p := ⟨bo, 0, none⟩) (by simp; omega) _, h5, .slice A k c, h6.set_ 0 _, ?_⟩
  rw [intVals_append, List.length_append]
  exact ownsRow_setCell_below hown (by simp) _
set_option maxHeartbeats 4000000 in
theorem try_yes (n day mi o s f t : Int) (bo : Nat) (L : List Int) (w0 w : World) (hn1 : -9223372036854775808 ≤ n) (hn2 : n ≤ 9223372036854775807) (hs : MSt w0 w day mi o s f t bo L) (hL : L.length ≤ 2)
    (hE : Hid (loc n o s f t = (day, mi, 0))) (hc : Hid (L.contains n = false)) :
    Calls Tryd.prog 52 #[.int .i64 n, .pointer (some ⟨w0.heap.size + 2, 0, none⟩), .pointer (some ⟨w0.heap.size, 0, none⟩), .pointer (some ⟨w0.heap.size + 1, 0, none⟩), .pointer (some ⟨bo, 0, none⟩)] w fun e w' => e = .returned (.tuple #[]) ∧ MSt w0 w' day mi o s f t bo (L ++ [n]) := by
  obtain ⟨i0, hi0, hi1, hi2, hi3⟩ := info_parts int_info
  have cz := hs.hz.cell
  have z0 := cz 0; have z1 := cz 1; have z2 := cz 2; have z3 := cz 3
  simp at z0 z1 z2 z3
  clear cz
  go_enter Tryd.func52, Tryd.ntmps52
  go_wp2_with (first
    | (go_at_call 26; refine (local_any _ _ _ _ _ _ (by omega) (by omega)).mono ?_; rintro e w1 ⟨rfl, hb1⟩; rw [hE.out]; have hs1 := hs.step hb1; have zd1 := hs1.hd.cell 0; have zm1 := hs1.hm.cell 0; simp at zd1 zm1; obtain ⟨A, c, zo1, zf1, hown1, hblk1⟩ := hs1.own)
    | (go_at_call 53; refine (contains_any _ _ (own_ints hown1) (by omega)).mono ?_; rintro e w2 ⟨rfl, rfl⟩; rw [hc.out])
    | (at_builtin
       refine wpList_append_any _ rfl (.tmp 34) (.tmp 36) 23 rfl (bo + 1) 3 i0 _ 1 8 Tryd.underlying23 hi0 hi1 hi2 hi3 rfl (by omega) (.slice A L.length c) L.length (intVals L) rfl
         (hown1.alloc _) (w1.heap.size + 1) (some ⟨w1.heap.size, 0, none⟩) 1 1 [.int .i64 n] rfl (reads_lit w1 3 _) (by simp [Value.oneCell']) (by unfold maxLen; omega) (by omega) (by have := hblk1.lt; simp; omega) ?_
       intro v2 w2 hown2 hg2 hat2
       obtain ⟨A2, c2, rfl⟩ := own_form hown2
       have hne := own_ne (bo := bo) hown1
       have hblk2 := (hblk1.alloc (.cells #[.int .i64 n] 3)).grown hg2 hne
       have zo2 := hblk2.cell 0
       have zf2 := hblk2.frozen 0
       simp at zo2
       have hs2 := hs1.grown_alloc hg2 hne hown1
       clear hat2 hg2 hne))
  go_end0
  exact ⟨rfl, hs2.put hown2⟩
end Go.Proofs.YtlfgjpidamkpdaaDoor
