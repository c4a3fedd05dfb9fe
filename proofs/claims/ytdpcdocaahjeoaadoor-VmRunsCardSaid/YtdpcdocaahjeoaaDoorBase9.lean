/- Regions in which an append onto a row that the region itself made may come up before other operations. No program in sight. -/
import Derived.Test.YtdpcdocaahjeoaaDoorBaseB
import Derived.ArgAppend
import Derived.Deep.Upon
namespace Go.Proofs.YtdpcdocaahjeoaaDoor
open Go Go.RowKit
/-- Cells behind the first n8 may have turned into those of us. -/
def Late (n8 : Nat) (us : List Value) (cur cur' : Array Value) : Prop := cur'.size = cur.size ∧ ∀ j, cur'[j]? = cur[j]? ∨ (n8 ≤ j ∧ ∃ u, us[j - n8]? = some u ∧ cur'[j]? = some u)
theorem Late.refl (n8 : Nat) (us : List Value) (cur : Array Value) : Late n8 us cur cur := ⟨rfl, fun _ => .inl rfl⟩
theorem Late.trans {n8 : Nat} {us : List Value} {a b c : Array Value} (h : Late n8 us a b) (k : Late n8 us b c) : Late n8 us a c :=
  ⟨k.1.trans h.1, fun j => by
    rcases k.2 j with e | e
    · rcases h.2 j with f | ⟨f1, u, f2, f3⟩
      · exact .inl (e.trans f)
      · exact .inr ⟨f1, u, f2, e.trans f3⟩
    · exact .inr e⟩
structure LR (gm : Nat) (t : TypeId) (sl : Value) (B0 : Nat) (te : TypeId) (n8 : Nat) (us : List Value) (W W' : World) : Prop where
  os : W'.os = W.os
  tape : W'.tape = W.tape
  output : W'.output = W.output
  size : W.heap.size ≤ W'.heap.size
  old : ∀ k, k < W.heap.size → k ≠ gm → W'.heap[k]? = W.heap[k]? ∨ (B0 ≤ k ∧ ∃ cur cur', Blk W k te cur ∧ Blk W' k te cur' ∧ Late n8 us cur cur')
  box : ∀ i, inI i → Blk W gm t #[sl, .int .i64 i] → ∃ i', inI i' ∧ Blk W' gm t #[sl, .int .i64 i']
section
variable {gm : Nat} {t : TypeId} {sl : Value} {B0 : Nat} {te : TypeId} {n8 : Nat} {us : List Value} {W W' W'' : World}
theorem LR.refl (gm : Nat) (t : TypeId) (sl : Value) (B0 : Nat) (te : TypeId) (n8 : Nat) (us : List Value) (W : World) : LR gm t sl B0 te n8 us W W := ⟨rfl, rfl, rfl, Nat.le_refl _, fun _ _ _ => .inl rfl, fun i h1 h2 => ⟨i, h1, h2⟩⟩
theorem LR.trans (h : LR gm t sl B0 te n8 us W W') (k : LR gm t sl B0 te n8 us W' W'') : LR gm t sl B0 te n8 us W W'' := by
  refine ⟨k.os.trans h.os, k.tape.trans h.tape, k.output.trans h.output, Nat.le_trans h.size k.size, fun i hi hg => ?_, fun i h1 h2 => ?_⟩
  · rcases k.old i (Nat.lt_of_lt_of_le hi h.size) hg with e | ⟨e1, c1, c2, e2, e3, e4⟩
    · rcases h.old i hi hg with f | ⟨f1, d1, d2, f2, f3, f4⟩
      · exact .inl (e.trans f)
      · exact .inr ⟨f1, d1, d2, f2, e.trans f3, f4⟩
    · rcases h.old i hi hg with f | ⟨f1, d1, d2, f2, f3, f4⟩
      · exact .inr ⟨e1, c1, c2, f.symm.trans e2, e3, e4⟩
      · have e : d2 = c1 := by
          have := f3.symm.trans e2
          injection this with this
          injection this
        subst e
        exact .inr ⟨f1, d1, c2, f2, e3, f4.trans e4⟩
  · obtain ⟨i', h1', h2'⟩ := h.box i h1 h2
    exact k.box i' h1' h2'
theorem LR.of_mk (h : MkR gm t sl W W') : LR gm t sl B0 te n8 us W W' := ⟨h.chg.os, h.chg.tape, h.chg.output, h.chg.size, fun k hk hg => .inl (h.chg.block k hk (by simpa using hg)), h.box⟩
theorem LR.below (h : Below W.heap.size W W') : LR gm t sl B0 te n8 us W W' := LR.of_mk (MkR.below h)
theorem LR.mk_ (h : LR gm t sl B0 te n8 us W W') (hB : W.heap.size ≤ B0) : MkR gm t sl W W' :=
  ⟨⟨h.os, h.tape, h.output, h.size, fun k hk hg => by
    rcases h.old k hk (by simpa using hg) with e | ⟨e, _⟩
    · exact e
    · omega⟩, h.box⟩
@[reducible] def lateGrow (gm : Nat) (t : TypeId) (sl : Value) (B0 : Nat) (te : TypeId) (n8 : Nat) (us : List Value) : Grow := ⟨LR gm t sl B0 te n8 us, LR.refl gm t sl B0 te n8 us, LR.trans, LR.below⟩
/-- A short block stands. -/
theorem LR.blk (h : LR gm t sl B0 te n8 us W W') {N : Nat} {t' : TypeId} {cs : Array Value} (hb : Blk W N t' cs) (hN : N ≠ gm) (hs : cs.size ≤ n8) : Blk W' N t' cs := by
  rcases h.old N hb.lt hN with e | ⟨_, c1, c2, e2, e3, e4⟩
  · exact e.trans hb
  · have := hb.symm.trans e2
    injection this with this
    injection this with h1 h2
    subst h1 h2
    have e : c2 = cs := by
      refine Array.ext_getElem? fun j => ?_
      rcases e4.2 j with e | ⟨e, u, f1, f2⟩
      · exact e
      · have hlt := (Array.getElem?_eq_some_iff.1 f2).1
        have := e4.1
        omega
    subst e
    exact e3
/-- A row that the region made. -/
def RowN (B0 : Nat) (te : TypeId) (size n : Nat) (xs : List Value) (v : Value) (w : World) : Prop := ∃ g cap cur, v = .slice (some ⟨g, 0, none⟩) n cap ∧ B0 ≤ g ∧ Blk w g te cur ∧ n ≤ cap ∧ cap ≤ maxLen ∧ cur.size = cap * size ∧ cur.toList.take (n * size) = xs
theorem rowN_kept {size n : Nat} {xs : List Value} (hg : gm < B0) (hx : ∀ j u, n8 ≤ j → xs[j]? = some u → us[j - n8]? = some u) : @RG.Kept (lateGrow gm t sl B0 te n8 us) (RowN B0 te size n xs) := by
  rintro v w w' ⟨g, cap, cur, h1, h2, h3, h4, h5, h6, h7⟩ hr
  have hr : LR gm t sl B0 te n8 us w w' := hr
  rcases hr.old g h3.lt (by omega) with e | ⟨_, c1, c2, e2, e3, e4⟩
  · exact ⟨g, cap, cur, h1, h2, e.trans h3, h4, h5, h6, h7⟩
  · have := h3.symm.trans e2
    injection this with this
    injection this with h8
    subst h8
    refine ⟨g, cap, c2, h1, h2, e3, h4, h5, e4.1.trans h6, ?_⟩
    rw [← h7]
    refine List.ext_getElem? fun j => ?_
    rw [List.getElem?_take, List.getElem?_take]
    split
    · rename_i hj
      rw [Array.getElem?_toList, Array.getElem?_toList]
      rcases e4.2 j with e | ⟨e, u, f1, f2⟩
      · exact e
      · have hlt : j < cur.size := by have := (Array.getElem?_eq_some_iff.1 f2).1; have := e4.1; omega
        have hxj : xs[j]? = some cur[j] := by
          rw [← h7, List.getElem?_take, if_pos hj, Array.getElem?_toList]; simp [hlt]
        have := hx j _ e hxj
        rw [f1] at this
        injection this with this
        rw [f2, this]; simp [hlt]
    · rfl
theorem RowN.owns {size n : Nat} {xs : List Value} {v : Value} {w : World} (h : RowN B0 te size n xs v w) (hl : xs.length = n * size) : w.ownsRow B0 te size v n xs := by
  obtain ⟨g, cap, cur, h1, h2, h3, h4, h5, h6, h7⟩ := h
  exact ⟨hl, .inr ⟨g, cap, cur, h1, h2, h3, h4, h5, h6, h7⟩⟩
theorem RowN.of_owns {size n base : Nat} {xs : List Value} {v : Value} {w : World} (h : w.ownsRow base te size v n xs) (hn : 0 < n) (hb : B0 ≤ base) : RowN B0 te size n xs v w := by
  rcases h.2 with ⟨_, h0⟩ | ⟨g, cap, cur, h1, h2, h3, h4, h5, h6, h7⟩
  · omega
  · exact ⟨g, cap, cur, h1, Nat.le_trans hb h2, h3, h4, h5, h6, h7⟩
theorem blk_setCells {g : Nat} {t' : TypeId} : ∀ (vs : List Value) (o : Nat) (w : World) (cs : Array Value), Blk w g t' cs → ∃ cs', Blk (w.setCells g o vs) g t' cs' ∧ cs'.size = cs.size ∧ (∀ j, j < o ∨ o + vs.length ≤ j → cs'[j]? = cs[j]?) ∧ ∀ j, j < vs.length → o + j < cs.size → cs'[o + j]? = vs[j]?
  | [], o, w, cs, h => ⟨cs, h, rfl, fun _ _ => rfl, fun j hj => by simp at hj⟩
  | v :: vs, o, w, cs, h => by
    obtain ⟨cs', h1, h2, h3, h4⟩ := blk_setCells vs (o + 1) _ _ (h.set_ o v)
    rw [Array.size_setIfInBounds] at h2 h4
    refine ⟨cs', h1, h2, fun j hj => ?_, fun j hj ho => ?_⟩
    · rw [h3 j (by simp only [List.length_cons] at hj; omega)]
      simp only [List.length_cons] at hj
      rw [Array.getElem?_setIfInBounds_ne (by omega)]
    · cases j with
      | zero =>
        rw [h3 (o + 0) (by omega)]
        have ho' : o < cs.size := by omega
        simp [ho']
      | succ j =>
        have := h4 j (by simpa using hj) (by omega)
        rw [show o + (j + 1) = o + 1 + j by omega, this]
        simp
theorem setCells_sizes (g : Nat) : ∀ (vs : List Value) (o : Nat) (w : World), (w.setCells g o vs).heap.size = w.heap.size ∧ (w.setCells g o vs).tape = w.tape
  | [], _, _ => ⟨rfl, rfl⟩
  | v :: vs, o, w => by
    have h := setCells_sizes g vs (o + 1) (w.setCell ⟨g, o, none⟩ v)
    exact ⟨h.1.trans (by simp [World.setCell]), h.2⟩
variable {P : Program}
/-- The late append. -/
theorem wpList_append_late {ops : Array Oper} {rest : List Oper} {o : Oper} {a : Act} {Q : Exit → Act → World → Prop} {w : World} (hgd : o.guard = none) (s x : Operand) (tt : TypeId)
    (ho : o.op = .call { callee := .builtin .append, args := #[s, x], argTypes := #[tt, tt] })
    (i : TypeInfo) (z : Value) (size bytes : Nat) (ht : P.underlying tt = some (.slice te)) (hi : P.info? te = some i) (hz : i.zero = some z)
    (hsize : i.size = size) (hby : i.bytes = bytes) (hzs : z.cells.size = size) (hsz : 0 < size)
    {v : Value} {n : Nat} {xs : List Value} (H : RowN B0 te size n xs v w) (hxs : xs.length = n * size) (_hn0 : 0 < n) (hs : a.eval s = v)
    {N : Nat} {cs : Array Value} {m c : Nat} (hx : a.eval x = .slice (some ⟨N, 0, none⟩) m c) (hb : Blk w N te cs) (hcs : cs.toList = us) (hm : us.length = m * size) (h1 : ∀ u ∈ us, u.oneCell' = true)
    (hn8 : n8 = n * size) (hgm : gm < B0) (hB : B0 ≤ w.heap.size)
    (h63 : n + m ≤ maxLen) (hbytes : (n + m) * bytes ≤ 140737488355328)
    (h : ∀ v' w', RowN B0 te size (n + m) (xs ++ us) v' w' → LR gm t sl B0 te n8 us w w' → wpList P ops Q rest (a.put o.dst v') w') : wpList P ops Q (o :: rest) a w := by
  subst hn8
  obtain ⟨g, cap, cur, rfl, h2, h3, h4, h5, h6, h7⟩ := H
  have hcell : ∀ j u, xs[j]? = some u → w.cell? ⟨g, 0 + j, none⟩ = some u := fun j u hu => by
    rw [Nat.zero_add, h3.cell]
    have hj := (List.getElem?_eq_some_iff.1 hu).1
    rw [← h7, List.getElem?_take, if_pos (by omega), Array.getElem?_toList] at hu
    exact hu
  have hlit : ∀ j u, us[j]? = some u → w.cell? ((Addr.mk N 0 none).add j) = some u := fun j u hu => by
    rw [Addr.add_lit, Nat.zero_add, hb.cell]
    rw [← hcs, Array.getElem?_toList] at hu
    exact hu
  refine wpList_append_arg w hgd s x tt ho te i z size bytes ht hi hz hsize hby hzs hsz g 0 n cap xs hs hxs hcell ⟨N, 0, none⟩ m c us hx hm hlit h1 (fun hr j hj => ?_) h63 hbytes (fun hr => ?_) (fun hr v' w' k1 k2 => ?_)
  · rw [h3.cell, h3.frozen]
    refine ⟨?_, rfl⟩
    have : (n + m) * size ≤ cap * size := Nat.mul_le_mul_right _ hr
    rw [Nat.add_mul] at this
    have hlt : 0 + n * size + j < cur.size := by omega
    simp
    omega
  · have hsp : (n + m) * size ≤ cap * size := Nat.mul_le_mul_right _ hr
    rw [Nat.add_mul] at hsp
    obtain ⟨cs', b1, b2, b3, b4⟩ := blk_setCells us (0 + n * size) w cur h3
    obtain ⟨z1, z2⟩ := setCells_sizes g us (0 + n * size) w
    rw [Nat.zero_add] at b1 b3 b4 z1 z2 ⊢
    refine h _ _ ⟨g, cap, cs', rfl, h2, b1, hr, h5, b2.trans h6, ?_⟩ ⟨World.os_setCells .., z2, World.output_setCells .., by rw [z1]; exact Nat.le_refl _, fun k hk hg => ?_, fun i h1' h2' => ⟨i, h1', ?_⟩⟩
    · refine List.ext_getElem? fun j => ?_
      rw [List.getElem?_take]
      by_cases hj : j < (n + m) * size
      · rw [if_pos hj, Array.getElem?_toList]
        rw [Nat.add_mul] at hj
        by_cases hjn : j < n * size
        · rw [b3 j (.inl hjn), List.getElem?_append_left (by omega), ← h7, List.getElem?_take, if_pos hjn, Array.getElem?_toList]
        · rw [List.getElem?_append_right (by omega), hxs]
          have := b4 (j - n * size) (by omega) (by omega)
          rw [show n * size + (j - n * size) = j by omega] at this
          exact this
      · rw [if_neg hj, List.getElem?_eq_none]
        rw [List.length_append, hxs, hm, ← Nat.add_mul]; omega
    · by_cases hkg : k = g
      · subst hkg
        refine .inr ⟨h2, cur, cs', h3, b1, b2, fun j => ?_⟩
        by_cases hjn : j < n * size
        · exact .inl (b3 j (.inl hjn))
        · by_cases hjm : j < n * size + us.length
          · by_cases hjc : j < cur.size
            · right
              have := b4 (j - n * size) (by omega) (by omega)
              rw [show n * size + (j - n * size) = j by omega] at this
              refine ⟨by omega, us[j - n * size]'(by omega), List.getElem?_eq_getElem (by omega), ?_⟩
              rw [this, List.getElem?_eq_getElem (by omega)]
            · left
              rw [Array.getElem?_eq_none (by omega), Array.getElem?_eq_none (by omega)]
          · exact .inl (b3 j (.inr (by omega)))
      · exact .inl (World.heap_setCells_other w g _ us hk hkg)
    · exact (World.heap_setCells_other w g _ us h2'.lt (by omega)).trans h2'
  · have hbl : Below w.heap.size w w' := ⟨k2.os, k2.tape, k2.output, k2.size, fun k hk => k2.block k hk (by simp)⟩
    exact h v' w' (RowN.of_owns k1 (by omega) hB) (LR.below hbl)
end
end Go.Proofs.YtdpcdocaahjeoaaDoor
