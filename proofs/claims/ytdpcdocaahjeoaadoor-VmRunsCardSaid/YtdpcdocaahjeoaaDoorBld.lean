/- strings.Builder: what writing to it does. -/
import Derived.Test.YtdpcdocaahjeoaaDoorM6
import Derived.Test.YtdpcdocaahjeoaaDoorShelf
import Derived.Lib.Builder
import Derived.Lib.AppendStr
import Derived.Lib.UnsafeStr
import Derived.Laws.Externs
namespace Go.Proofs.YtdpcdocaahjeoaaDoor
open Go Go.RowKit
/-- Where the row lies behind an append of a text. -/
theorem append_string_at {P : Program} (w : World) (base : Nat) (t u ty e : TypeId) (i : TypeInfo) (ht : P.underlying t = some (.slice e)) (hu : P.underlying u = some .string) (hi : P.info? e = some i) (hz : i.zero = some (.int .u8 0)) (hsize : i.size = 1) (hby : i.bytes = 1)
    (v : Value) (n : Nat) (xs : List Value) (hown : w.ownsRow base e 1 v n xs) (s : ByteArray) (h47 : n + s.size ≤ 140737488355328) (v' : Value) (w' : World) (hrun : (Builtin.append_ #[t, u] ty #[v, .string s]).run P w = .ok v' w') : v'.ownBlock = v.ownBlock ∨ v'.ownBlock = some w.heap.size := by
  rcases hown.2 with ⟨rfl, rfl⟩ | ⟨g, cap, cur, rfl, hbg, hg, hnc, hcm, hcs, htk⟩
  · by_cases hs : s.size = 0
    · have hf := Lib.run_firstCells_string (P := P) w 1 s
      rw [hs] at hf
      have h2 : (Builtin.append_ #[t, u] ty #[.slice none 0 0, .string s]).run P w = .ok (.slice none 0 0) w := by
        simp [Builtin.append_, run_underlying ht, run_underlying hu, sizeOf, typeInfo, hi, hsize, Builtin.lenOf, hs, hf]
      rw [h2] at hrun
      injection hrun with h3 h4
      left; rw [← h3]
    · have h2 := run_append_nil_string (P := P) w t u ty e i (.int .u8 0) ht hu hi hz s (by omega) (by omega) (by rw [hby]; omega)
      rw [h2] at hrun
      injection hrun with h3 h4
      right; rw [← h3]; rfl
  · by_cases hroom : n + s.size ≤ cap
    · have h2 := Lib.run_append_room_string (P := P) w t u ty e i ht hu hi hsize g n cap cur hg s hroom (by omega)
      rw [h2] at hrun
      injection hrun with h3 h4
      left; rw [← h3]; rfl
    · have hx : xs.length = n := by have := hown.1; omega
      have h2 := Lib.run_append_grow_string (P := P) w t u ty e i (.int .u8 0) ht hu hi hz ⟨g, 0, none⟩ n cap xs (by rw [hsize]; omega) (hown.cells (g := g) rfl) s (by omega) (by omega) (by rw [hby]; exact growslice_fits (by omega) (by omega))
      rw [h2] at hrun
      injection hrun with h3 h4
      right; rw [← h3]; rfl
theorem wpList_append_str {P : Program} {ops : Array Oper} {rest : List Oper} {o : Oper} {a : Act} {Q : Exit → Act → World → Prop} (hgd : o.guard = none) (sl x : Operand) (t u : TypeId)
    (ho : o.op = .call { callee := .builtin .append, args := #[sl, x], argTypes := #[t, u] }) (e : TypeId) (i : TypeInfo) (ht : P.underlying t = some (.slice e)) (hu : P.underlying u = some .string) (hi : P.info? e = some i) (hz : i.zero = some (.int .u8 0)) (hsize : i.size = 1) (hby : i.bytes = 1)
    {w W : World} {G M : List Nat} {bx : List Box} {L : List (List Nat → World → Prop)} {v : Value} {n : Nat} {xs : List Value} (H : HRow w G M bx L e 1 v n xs W) (hs : a.eval sl = v) (s : ByteArray) (hx : a.eval x = .string s) (h47 : n + s.size ≤ 140737488355328)
    (h : ∀ v' W' M', HRow w G M' bx L e 1 v' (n + s.size) (xs ++ Lib.strCells s) W' → (∀ g ∈ M, g ∈ M') → wpList P ops Q rest (a.put o.dst v') W') : wpList P ops Q (o :: rest) a W := by
  obtain ⟨v', W', hr, h2, h3, _⟩ := Lib.run_append_own_string (P := P) W w.heap.size t u o.type e i ht hu hi hz hsize hby v n xs H.own s (by unfold maxLen; omega) h47 H.h.bl.size
  have h4 := append_string_at (P := P) W w.heap.size t u o.type e i ht hu hi hz hsize hby v n xs H.own s h47 v' W' hr
  obtain ⟨M', k1, k2, k3⟩ := H.h.grown H.ok h3 h4 h2
  refine wpList_plain hgd fun K hK => ?_
  unfold Oper.wp execOp
  simp only [ho, resolve, invoke, builtin, Sem.run_bind, Sem.run_pure, Result.andThen_ok, List.map_toArray, List.map_cons, List.map_nil, hs, hx, hr]
  exact hK _ _ (h v' W' M' ⟨k1, k2, h2⟩ k3)
/-- A builder that a call has: its box, what was written to it. -/
structure Bld (w : World) (G M : List Nat) (bx : List Box) (L : List (List Nat → World → Prop)) (b : Nat) (l : List UInt8) (W : World) : Prop where
  it : ∃ p v, (p = .pointer none ∨ p = .pointer (some ⟨b, 0, none⟩)) ∧ HRow w G M ((b, 122, #[p, v]) :: bx) L 5 1 v l.length (byteVals l) W
theorem infoBld : (Tryd.prog.info? 122).map (·.size) = some 2 := by kernel_rfl
theorem liesBld : liesAt Tryd.prog Tryd.prog.depth 122 (2 / Tryd.prog.cellsOf 122) 0 122 1 = true := by kernel_rfl
set_option maxHeartbeats 1000000 in
set_option maxRecDepth 100000 in
theorem copyCheck_fresh (b : Nat) (v : Value) (w : World) (hb : Blk w b 122 #[.pointer none, v]) : Calls Tryd.prog 72 #[.pointer (some ⟨b, 0, none⟩)] w fun e w' => e = .returned (.tuple #[]) ∧ w' = w.setCell ⟨b, 0, none⟩ (.pointer (some ⟨b, 0, none⟩)) := by
  obtain ⟨j, hj, hjs⟩ := Option.map_eq_some_iff.1 infoBld
  have h0 : w.cell? ⟨b, 0, none⟩ = some (.pointer none) := hb.cell 0
  have hsh : w.shape? b = some (122, 2) := by unfold World.shape?; rw [show w.heap[b]? = _ from hb]; rfl
  have hfz := hb.frozen 0
  have HL := Lib.hid liesBld
  clear hb
  go_enter Tryd.func72, Tryd.ntmps72
  go_wp2
  rw [Lib.run_to_unsafe w ⟨b, 0, none⟩ Tryd.underlying120 Tryd.underlying155 hj (by rw [hjs]; decide) hsh (Nat.zero_lt_succ 1)]
  simp only [Result.andThen]
  rw [Oper.upon_value]
  go_wp2
  rw [run_callFunc_extern Tryd.func79 (by kernel_rfl) (by kernel_rfl) (by kernel_rfl) (e := Extern.AbiNoEscape.same) (by kernel_rfl)]
  rw [Lib.run_noEscape]
  simp only [Result.andThen]
  rw [Oper.upon_value]
  go_wp2
  rw [Lib.run_from_unsafe w ⟨b, 0, none⟩ Tryd.underlying155 Tryd.underlying120 hj hsh HL.out]
  simp only [Result.andThen]
  rw [Oper.upon_value]
  go_wp2
  go_end0
  exact ⟨rfl, rfl⟩
set_option maxHeartbeats 1000000 in
set_option maxRecDepth 100000 in
theorem copyCheck_used (b : Nat) (v : Value) (w : World) (hb : Blk w b 122 #[.pointer (some ⟨b, 0, none⟩), v]) : Calls Tryd.prog 72 #[.pointer (some ⟨b, 0, none⟩)] w fun e w' => e = .returned (.tuple #[]) ∧ w' = w := by
  obtain ⟨j, hj, _⟩ := Option.map_eq_some_iff.1 infoBld
  have h0 : w.cell? ⟨b, 0, none⟩ = some (.pointer (some ⟨b, 0, none⟩)) := hb.cell 0
  clear hb
  go_enter Tryd.func72, Tryd.ntmps72
  go_wp2
  rw [Lib.run_neq_ptr_same w _ Tryd.underlying120 hj]
  go_wp2
  go_end0
  exact ⟨rfl, rfl⟩
/-- The call of copyCheck, at a builder that a call has. -/
theorem copyCheck_any {w W : World} {G M : List Nat} {bx : List Box} {L : List (List Nat → World → Prop)} {b : Nat} {l : List UInt8} (H : Bld w G M bx L b l W) : Calls Tryd.prog 72 #[.pointer (some ⟨b, 0, none⟩)] W fun e W' => e = .returned (.tuple #[]) ∧
    ∃ v, HRow w G M ((b, 122, #[.pointer (some ⟨b, 0, none⟩), v]) :: bx) L 5 1 v l.length (byteVals l) W' := by
  obtain ⟨p, v, hp, h⟩ := H.it
  rcases hp with rfl | rfl
  · refine (copyCheck_fresh b v W (h.h.box (.head _))).mono ?_
    rintro e W' ⟨rfl, rfl⟩
    exact ⟨rfl, v, h.set_ (bx1 := []) 0 _⟩
  · refine (copyCheck_used b v W (h.h.box (.head _))).mono ?_
    rintro e W' ⟨rfl, rfl⟩
    exact ⟨rfl, v, h⟩
def BldP (w : World) (G M : List Nat) (bx : List Box) (L : List (List Nat → World → Prop)) (b : Nat) (l : List UInt8) (r : Value) (e : Ending) (W : World) : Prop := e = .returned r ∧ ∃ M', Bld w G M' bx L b l W ∧ ∀ g ∈ M, g ∈ M'
theorem strCells_is (s : ByteArray) : Lib.strCells s = byteVals s.data.toList := rfl
theorem bcells {w : World} {g : Nat} {t : TypeId} {a b : Value} (h : Blk w g t #[a, b]) : w.cell? ⟨g, 0, none⟩ = some a ∧ w.cell? ⟨g, 1, none⟩ = some b ∧ w.frozen? ⟨g, 0, none⟩ = false ∧ w.frozen? ⟨g, 1, none⟩ = false := ⟨h.cell 0, h.cell 1, h.frozen 0, h.frozen 1⟩
set_option maxHeartbeats 2000000 in
set_option maxRecDepth 100000 in
theorem writeString_any {w W : World} {G M : List Nat} {bx : List Box} {L : List (List Nat → World → Prop)} {b : Nat} {l : List UInt8} (s : ByteArray) (H : Bld w G M bx L b l W) (h47 : l.length + s.size ≤ 140737488355328) :
    Calls Tryd.prog 54 #[.pointer (some ⟨b, 0, none⟩), .string s] W (BldP w G M bx L b (l ++ s.data.toList) (.tuple #[.int .i64 s.size, .nilIface])) := by
  obtain ⟨i0, hi, hz0, hz1, hz2⟩ := info_parts infoU8
  have HII := Lib.hid (show _ ∧ _ ∧ _ ∧ _ from ⟨hi, hz0, hz1, hz2⟩)
  have CC := Lib.hid (copyCheck_any H)
  have HL := Lib.hid (show l.length + s.size = (l ++ s.data.toList).length by simp)
  have HB := Lib.hid (show byteVals l ++ Lib.strCells s = byteVals (l ++ s.data.toList) by rw [strCells_is, ← byteVals_append])
  obtain ⟨n, hn⟩ : ∃ n, l.length = n := ⟨_, rfl⟩
  rw [hn] at CC HL h47
  generalize l ++ s.data.toList = l' at *
  clear H hi hz0 hz1 hz2 hn
  go_enter Tryd.func54, Tryd.ntmps54
  go_wp2_with (first | (go_at_call 72; ((with_reducible refine (CC.out).mono ?_)); rintro e w1 ⟨rfl, v, hr⟩; have T := Lib.hid hr; obtain ⟨c0, c1, f0, f1⟩ := bcells (T.out.h.box (.head _)); clear hr) | (at_builtin; obtain ⟨hi, hz0, hz1, hz2⟩ := HII.out; refine wpList_append_str (by rfl) _ _ 63 9 (by rfl) 5 i0 Tryd.underlying63 Tryd.underlying9 hi hz0 hz1 hz2 T.out (by rfl) s (by rfl) h47 ?_; intro v' w' M' h' hM; obtain ⟨A', c', rfl⟩ := own_form h'.own; rw [HB.out, HL.out] at h'; replace T := Lib.hid h'; clear h' hi hz0 hz1 hz2 c0 c1 f0 f1; obtain ⟨c0, c1, f0, f1⟩ := bcells (T.out.h.box (.head _)); have HM := Lib.hid hM; clear hM))
  go_ret2
  rw [HL.out]
  exact ⟨rfl, _, ⟨⟨_, _, .inr rfl, T.out.set_ (bx1 := []) 1 _⟩⟩, HM.out⟩
set_option maxHeartbeats 2000000 in
set_option maxRecDepth 100000 in
theorem writeByte_any {w W : World} {G M : List Nat} {bx : List Box} {L : List (List Nat → World → Prop)} {b : Nat} {l : List UInt8} (c : UInt8) (H : Bld w G M bx L b l W) (h47 : l.length + 1 ≤ 140737488355328) :
    Calls Tryd.prog 56 #[.pointer (some ⟨b, 0, none⟩), .int .u8 c.toNat] W (BldP w G M bx L b (l ++ [c]) .nilIface) := by
  obtain ⟨i0, hi, hz0, hz1, hz2⟩ := info_parts infoU8
  have HII := Lib.hid (show _ ∧ _ ∧ _ ∧ _ from ⟨hi, hz0, hz1, hz2⟩)
  have CC := Lib.hid (copyCheck_any H)
  have HL := Lib.hid (show l.length + 1 = (l ++ [c]).length by simp)
  have HB := Lib.hid (byteVals_snoc l c)
  obtain ⟨n, hn⟩ : ∃ n, l.length = n := ⟨_, rfl⟩
  rw [hn] at CC HL h47
  generalize l ++ [c] = l' at *
  clear H hi hz0 hz1 hz2 hn
  go_enter Tryd.func56, Tryd.ntmps56
  go_wp2_with (first | (go_at_call 72; ((with_reducible refine (CC.out).mono ?_)); rintro e w1 ⟨rfl, v, hr⟩; have T := Lib.hid hr; obtain ⟨c0, c1, f0, f1⟩ := bcells (T.out.h.box (.head _)); clear hr) | (at_builtin; obtain ⟨hi, hz0, hz1, hz2⟩ := HII.out; refine wpList_append_row (by rfl) _ _ 63 (by rfl) 5 i0 _ 1 1 Tryd.underlying63 hi hz0 hz1 hz2 rfl (by decide) (T.out.below ((Below.refl _ _).alloc (Nat.le_refl _) _)) (by rfl) _ _ 1 1 [.int .u8 c.toNat] (by rfl) (reads_blk (Blk.new _ _ _) rfl) (byte_one c) (by unfold maxLen; omega) (by omega) ?_; intro v' w' M' h' hM; obtain ⟨A', c', rfl⟩ := own_form h'.own; rw [HB.out, HL.out] at h'; replace T := Lib.hid h'; clear h' hi hz0 hz1 hz2 c0 c1 f0 f1; obtain ⟨c0, c1, f0, f1⟩ := bcells (T.out.h.box (.head _)); have HM := Lib.hid hM; clear hM))
  go_ret
  rw [HL.out]
  exact ⟨rfl, _, ⟨⟨_, _, .inr rfl, T.out.set_ (bx1 := []) 1 _⟩⟩, HM.out⟩
/-- The text of a builder. -/
theorem bldString_any {w W : World} {G M : List Nat} {bx : List Box} {L : List (List Nat → World → Prop)} {b : Nat} {l : List UInt8} (H : Bld w G M bx L b l W) :
    Calls Tryd.prog 57 #[.pointer (some ⟨b, 0, none⟩)] W fun e W' => e = .returned (.string ⟨l.toArray⟩) ∧ Below w.heap.size W W' := by
  obtain ⟨p, v, hp, h⟩ := H.it
  have hb := h.h.bs _ (.head _)
  have hAt : Lib.BuilderAt 122 5 w.heap.size b p (byteVals l) W := ⟨hb.2.1, v, hb.2.2, by rw [byteVals_length]; exact h.own, fun he => (h.ok b he).2.2 _ (.head _) rfl⟩
  exact Tryd.Builder_String_any w.heap.size b l W (by rcases hp with rfl | rfl <;> first | exact .inl hAt | exact .inr hAt) h.h.bl.size
/-- A builder that was just made. -/
theorem Bld.new {w W : World} {G M : List Nat} {bx : List Box} {L : List (List Nat → World → Prop)} (h : Held w G M bx L W) : Bld w G (W.heap.size :: M) bx L W.heap.size [] (W.alloc (.cells #[.pointer none, .slice none 0 0] 122)) :=
  ⟨⟨_, _, .inl rfl, HRow.start (h.new _ _ rfl)⟩⟩
section
variable {w W W' : World} {G M : List Nat} {bx : List Box} {L : List (List Nat → World → Prop)} {b : Nat} {l : List UInt8}
theorem Held.perm {bx' : List Box} (h : Held w G M bx L W) (hp : bx.Perm bx') : Held w G M bx' L W := ⟨h.bl, h.mb, h.gm, fun x hx => h.bs x (hp.mem_iff.2 hx), (hp.map _).nodup_iff.1 h.nd, h.all⟩
theorem HRow.perm {bx' : List Box} {e : TypeId} {size n : Nat} {v : Value} {xs : List Value} (h : HRow w G M bx L e size v n xs W) (hp : bx.Perm bx') : HRow w G M bx' L e size v n xs W := ⟨h.h.perm hp, h.ok.sub fun _x hx => hp.mem_iff.2 hx, h.own⟩
/-- A block that came to be since W is one of the call's boxes. -/
theorem Held.adopt {g : Nat} {t : TypeId} {cs : Array Value} (h : Held w G M bx L W) (hb : Below W.heap.size W W') (hg : W.heap.size ≤ g) (hB : Blk W' g t cs) : Held w G (g :: M) ((g, t, cs) :: bx) L W' := by
  have h' := h.below hb
  refine ⟨h'.bl, fun k hk => ?_, fun k hk => .tail _ (h.gm k hk), fun x hx => ?_, ?_, fun P hP => ⟨(h.all P hP).1, ?_⟩⟩
  · rcases List.mem_cons.1 hk with rfl | hk
    · exact hB.lt
    · exact h'.mb k hk
  · rcases List.mem_cons.1 hx with rfl | hx
    · exact ⟨.head _, Nat.le_trans h.bl.size hg, hB⟩
    · exact ⟨.tail _ (h'.bs x hx).1, (h'.bs x hx).2⟩
  · rw [List.map_cons, List.nodup_cons]
    refine ⟨fun hm => ?_, h.nd⟩
    obtain ⟨x, hx, he⟩ := List.mem_map.1 hm
    have := (h.bs x hx).2.2.lt
    simp only at he
    omega
  · refine (h.all P hP).1.1 _ _ _ ((h.all P hP).1.2 M _ _ (h.all P hP).2 fun k hk => ?_) (Chg.of_below hb)
    rcases List.mem_cons.1 hk with rfl | hk
    · exact .inr hg
    · exact .inl hk
theorem HRow.adopt {g : Nat} {t : TypeId} {cs : Array Value} {e : TypeId} {size n : Nat} {v : Value} {xs : List Value} (h : HRow w G M bx L e size v n xs W) (hb : Below W.heap.size W W') (hg : W.heap.size ≤ g) (hB : Blk W' g t cs) : HRow w G (g :: M) ((g, t, cs) :: bx) L e size v n xs W' := by
  refine ⟨h.h.adopt hb hg hB, fun k hk => ⟨.tail _ (h.ok k hk).1, (h.ok k hk).2.1, fun x hx => ?_⟩, owns_below h.own hb⟩
  rcases List.mem_cons.1 hx with rfl | hx
  · intro he
    rcases h.own.2 with ⟨rfl, _⟩ | ⟨g', cap, cur, rfl, _, hh, _⟩
    · simp [Value.ownBlock] at hk
    · simp only [Value.ownBlock, Option.some.injEq] at hk
      subst hk
      simp only at he
      rw [Array.getElem?_eq_none (by omega)] at hh; cases hh
  · exact (h.ok k hk).2.2 x hx
theorem Bld.below (h : Bld w G M bx L b l W) (hb : Below W.heap.size W W') : Bld w G M bx L b l W' := by
  obtain ⟨p, v, hp, h⟩ := h.it
  exact ⟨⟨p, v, hp, h.below hb⟩⟩
theorem Bld.drew (h : Bld w G M bx L b l W) : Bld w G M bx L b l W.drew := h.below ⟨rfl, rfl, rfl, Nat.le_refl _, fun _ _ => rfl⟩
theorem Bld.adopt {g : Nat} {t : TypeId} {cs : Array Value} (h : Bld w G M bx L b l W) (hb : Below W.heap.size W W') (hg : W.heap.size ≤ g) (hB : Blk W' g t cs) : Bld w G (g :: M) ((g, t, cs) :: bx) L b l W' := by
  obtain ⟨p, v, hp, h⟩ := h.it
  exact ⟨⟨p, v, hp, (h.adopt hb hg hB).perm (.swap _ _ _)⟩⟩
theorem Bld.newBox (h : Bld w G M bx L b l W) (cs : Array Value) (t : TypeId) {N : Nat} (hN : W.heap.size = N) : Bld w G (N :: M) ((N, t, cs) :: bx) L b l (W.alloc (.cells cs t)) :=
  h.adopt ((Below.refl _ _).alloc (Nat.le_refl _) _) (Nat.le_of_eq hN) (by subst hN; exact Blk.new _ _ _)
theorem Bld.box {x : Box} (h : Bld w G M bx L b l W) (hx : x ∈ bx) : Blk W x.1 x.2.1 x.2.2 := by
  obtain ⟨p, v, hp, h⟩ := h.it
  exact h.h.box (.tail _ hx)
theorem Bld.fact {P : List Nat → World → Prop} (h : Bld w G M bx L b l W) (hP : P ∈ L) : P M W := by
  obtain ⟨p, v, hp, h⟩ := h.it
  exact h.h.fact hP
theorem Bld.bl (h : Bld w G M bx L b l W) : Below w.heap.size w W := by
  obtain ⟨p, v, hp, h⟩ := h.it
  exact h.h.bl
theorem Bld.rest {x : Box} (h : Bld w G M (x :: bx) L b l W) : Bld w G M bx L b l W := by
  obtain ⟨p, v, hp, h⟩ := h.it
  exact ⟨⟨p, v, hp, (h.perm (.swap x _ _)).rest rfl⟩⟩
/-- A store into a box beside the builder. -/
theorem Bld.set_ {N : Nat} {t : TypeId} {cs : Array Value} (h : Bld w G M ((N, t, cs) :: bx) L b l W) (i : Nat) (u : Value) : Bld w G M ((N, t, cs.setIfInBounds i u) :: bx) L b l (W.setCell ⟨N, i, none⟩ u) := by
  obtain ⟨p, v, hp, h⟩ := h.it
  exact ⟨⟨p, v, hp, h.set_ (bx1 := [_]) i u⟩⟩
end
end Go.Proofs.YtdpcdocaahjeoaaDoor
