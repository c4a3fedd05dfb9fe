/- Maker.Take and what kind and rule share. -/
import Derived.Test.YtdpcdocaahjeoaaDoorM4
import Derived.Test.YtdpcdocaahjeoaaDoorBaseB
import Derived.Test.YtdpcdocaahjeoaaDoorVmGP
namespace Go.Proofs.YtdpcdocaahjeoaaDoor
open Go Go.RowKit
theorem slAt_of_ints {w : World} {B n : Nat} {A : Option Addr} {L : List Int} (h : Ints w B A n L) (hL : AllI L) : SlAt [] w A L := by
  by_cases hn : n = 0
  · have := h.len
    left
    exact List.eq_nil_of_length_eq_zero (by omega)
  · obtain ⟨b, o, rfl, _, hc⟩ := h.form (by omega)
    refine .inr ⟨b, o, rfl, ?_, by simp, fun i hi => ?_⟩
    · exact World.block_lt_of_cell? _ _ (hc 0 (by have := h.len; omega))
    · refine ⟨[.int .i64 L[i]], ⟨rfl, hL _ (List.getElem_mem hi)⟩, fun j u hu => ?_⟩
      cases j with
      | zero =>
        simp at hu; subst hu
        have := hc i hi
        rw [List.getD_eq_getElem?_getD, List.getElem?_eq_getElem hi] at this
        simpa [show Mem.sz Int = 1 from rfl] using this
      | succ j => simp at hu
set_option maxHeartbeats 1000000 in
theorem at_some {G : List Nat} (A : Option Addr) (c : Nat) (l : List Int) (i m : Int) (w : World) (hs : SlAt G w A l) (_hl : l.length ≤ 9223372036854775807) (hi : inI i) (hm : 1 ≤ m) (hm2 : m ≤ 9223372036854775807) :
    Calls Tryd.prog 35 #[.slice A l.length c, .int .i64 i, .int .i64 m] w fun e w' => ∃ v : Int, e = .returned (.int .i64 v) ∧ 0 ≤ v ∧ v < m ∧ w = w' := by
  obtain ⟨i1, i2⟩ := hi
  by_cases h0 : i < 0
  · clear hs
    go_enter Tryd.func35, Tryd.ntmps35
    go_wp2_with fail
    go_ret
    exact ⟨0, rfl, by omega, by omega, rfl⟩
  · obtain ⟨k, rfl⟩ : ∃ k : Nat, i = k := ⟨i.toNat, by omega⟩
    by_cases hlt : k < l.length
    · obtain ⟨b1, o1, rfl, _, d1, q⟩ := int_at hs k hlt
      obtain ⟨q1, q2⟩ := q
      have HB := Lib.hid (around_bd l[k] m hm)
      generalize l[k] = x at d1 q1 q2 HB
      generalize l.length = n at *
      clear hs
      go_enter Tryd.func35, Tryd.ntmps35
      go_wp2_with (go_at_call 13; refine (around_any _ _ _ (by omega) (by omega)).mono ?_; rintro e w' ⟨rfl, rfl⟩)
      go_ret
      exact ⟨_, rfl, HB.out.1, HB.out.2, rfl⟩
    · generalize l.length = n at *
      clear hs
      go_enter Tryd.func35, Tryd.ntmps35
      go_wp2_with fail
      go_ret
      exact ⟨0, rfl, by omega, by omega, rfl⟩
theorem wrap_in (x : Int) : inI (IntKind.i64.wrap x) := by
  unfold inI IntKind.wrap IntKind.signed IntKind.bits
  simp
  split <;> omega
set_option maxHeartbeats 2000000 in
theorem take_any {gm : Nat} {A : Option Addr} {c : Nat} {l : List Int} {i : Int} (n : Int) (w : World) (hb : Blk w gm 83 #[.slice A l.length c, .int .i64 i]) (hi : inI i) (hs : SlAt [gm] w A l) (hl : l.length ≤ 9223372036854775807) (h1 : 1 ≤ n) (h2 : n ≤ 9223372036854775807) :
    Calls Tryd.prog 32 #[.pointer (some ⟨gm, 0, none⟩), .int .i64 n] w fun e w' => ∃ v : Int, e = .returned (.int .i64 v) ∧ 0 ≤ v ∧ v < n ∧ MkR gm 83 (.slice A l.length c) w w' := by
  obtain ⟨i1, e1⟩ : ∃ z, IntKind.i64.wrap (i + 1) = z := ⟨_, rfl⟩
  obtain ⟨i2, e2⟩ : ∃ z, IntKind.i64.wrap (i1 - 1) = z := ⟨_, rfl⟩
  have k1 : inI i1 := e1 ▸ wrap_in (i + 1)
  have k2 := Lib.hid (show inI i2 from e2 ▸ wrap_in (i1 - 1))
  have f1 := hb.frozen 1
  have c0 := hb.cell 0
  have c1 := hb.cell 1
  have b2 := hb.set_ 1 (.int .i64 i1)
  have d0 := b2.cell 0
  have d1 := b2.cell 1
  have hr := Lib.hid (MkR.set_ (sl := .slice A l.length c) i hi hb _ k1)
  have HS2 := Lib.hid (hs.keep hr.out.chg)
  have HL := Lib.hid hl
  clear hb hi hs hl b2 k1
  simp at c0 c1 d0 d1
  go_enter Tryd.func32, Tryd.ntmps32
  go_wp2_with fail
  apply wp_region_typed (C := fun w' => Below (w.setCell ⟨gm, 1, none⟩ (.int .i64 i1)).heap.size (w.setCell ⟨gm, 1, none⟩ (.int .i64 i1)) w') (n := 23) (m := 12) (l1 := [_, _, _, _, _, _, _, _, _, _, _, _]) (l2 := [])
  · rfl
  · rfl
  · kernel_rfl
  · rfl
  · kernel_rfl
  · exact ⟨rfl, rfl, rfl, Nat.le_refl _, fun _ _ => rfl⟩
  · exact fun u u' h hb => (by first | exact h.below hb | exact h.trans (hb.mono h.size))
  iterate 10 ((apply wpT_exact; · (intro w' hC hf; unfold Gives; have q0 := (hC.cell (World.block_lt_of_cell? _ _ d0)).trans d0; have q1 := (hC.cell (World.block_lt_of_cell? _ _ d1)).trans d1; clear hf hC; go_wp2_with (fail); apply postT_val rfl (Below.refl _ _); simp only [valAt, Array.getD_eq_getD_getElem?, List.getElem?_toArray, List.getElem?_cons_succ, List.getElem?_cons_zero, Option.getD_some]; exact rfl)); (try simp only [Act.put, List.setIfInBounds_toArray, List.set_cons_zero, List.set_cons_succ]))
  apply wpT_typed (T := fun v _ => ∃ z : Int, v = .int .i64 z ∧ 0 ≤ z ∧ z < n) (fun v w w' h _ => h)
  · intro w' hC hf; unfold Gives; clear hf
    have HC := Lib.hid hC; clear hC
    go_wp2_with (go_at_call 35; refine (at_some A c l i2 n _ (HS2.out.keep (Chg.of_below HC.out)) HL.out k2.out h1 h2).mono ?_; rintro e w' ⟨v, rfl, v1, v2, rfl⟩)

    refine postT_mk rfl (Below.refl _ _) ?_; simp only [valAt, Array.getD_eq_getD_getElem?, List.getElem?_toArray, List.getElem?_cons_succ, List.getElem?_cons_zero, Option.getD_some]; exact ⟨_, rfl, v1, v2⟩
  intro v; (try simp only [Act.put, List.setIfInBounds_toArray, List.set_cons_zero, List.set_cons_succ])
  apply wpT_typed (T := fun v _ => ∃ z : Int, v = .int .i64 z ∧ 0 ≤ z ∧ z < n) (fun v w w' h _ => h)
  · intro w' hC hf; unfold Gives; obtain ⟨z, rfl, z1, z2⟩ := hf.1 rfl; clear hf hC
    go_wp2_with fail
    refine postT_mk rfl (Below.refl _ _) ?_; simp only [valAt, Array.getD_eq_getD_getElem?, List.getElem?_toArray, List.getElem?_cons_succ, List.getElem?_cons_zero, Option.getD_some]; exact ⟨_, rfl, z1, z2⟩
  intro v2; (try simp only [Act.put, List.setIfInBounds_toArray, List.set_cons_zero, List.set_cons_succ])
  apply wpT_done
  intro w4 hC hall
  obtain ⟨z, rfl, z1, z2⟩ := hall.1
  have HC := Lib.hid hC; clear hC hall
  go_wp2_with fail
  go_ret
  exact ⟨_, rfl, z1, z2, hr.out.trans (MkR.below HC.out)⟩
end Go.Proofs.YtdpcdocaahjeoaaDoor
namespace Go.Proofs.YtdpcdocaahjeoaaDoor
open Go Go.RowKit
/-- A Maker's box, its list, and the world in which the call began that made it. -/
structure MkK where
  w : World
  G : List Nat
  gm : Nat
  A : Option Addr
  l : List Int
  c : Nat
def MkK.sl (K : MkK) : Value := .slice K.A K.l.length K.c
def MkK.R (K : MkK) : World → World → Prop := MkR K.gm 83 K.sl
def MkK.p (K : MkK) : Value := .pointer (some ⟨K.gm, 0, none⟩)
@[reducible] def MkK.grow (K : MkK) : Grow := mkGrow K.gm 83 K.sl
structure MkH (K : MkK) (M : List Nat) (bx : List Box) (rs : List Rw) (L : List (List Nat → World → Prop)) (W : World) : Prop where
  len : K.l.length ≤ 9223372036854775807
  base : ∀ g ∈ K.G, g < K.w.heap.size
  it : ∃ i, inI i ∧ HR K.w K.G M ((K.gm, 83, #[K.sl, .int .i64 i]) :: bx) rs ((fun M W => SlAt M W K.A K.l) :: L) W
section
variable {K : MkK} {M : List Nat} {bx : List Box} {rs : List Rw} {r : Rw} {L : List (List Nat → World → Prop)} {W W' : World}
theorem MkH.take (h : MkH K M bx rs L W) (n : Int) (h1 : 1 ≤ n) (h2 : n ≤ 9223372036854775807) :
    Calls Tryd.prog 32 #[K.p, .int .i64 n] W fun e w' => ∃ v : Int, e = .returned (.int .i64 v) ∧ 0 ≤ v ∧ v < n ∧ K.R W w' := by
  obtain ⟨i, hi, H⟩ := h.it
  exact take_any n W (H.h.box (.head _)) hi ((H.h.fact (.head _)).sub fun g hg => by rw [List.mem_singleton.1 hg]; exact .inl (H.h.bs _ (.head _)).1) h.len h1 h2
theorem MkH.turn (h : MkH K M bx rs L W) (hr : K.R W W') : MkH K M bx rs L W' := by
  obtain ⟨i, hi, H⟩ := h.it
  obtain ⟨i', hi', H'⟩ := H.mkr hi hr
  exact ⟨h.len, h.base, i', hi', H'⟩
theorem MkH.below (h : MkH K M bx rs L W) (hb : Below W.heap.size W W') : MkH K M bx rs L W' := h.turn (MkR.below hb)
theorem MkH.drew (h : MkH K M bx rs L W) : MkH K M bx rs L W.drew := h.below ⟨rfl, rfl, rfl, Nat.le_refl _, fun _ _ => rfl⟩
theorem MkH.drewN (h : MkH K M bx rs L W) (n : Nat) : MkH K M bx rs L (W.drewN n) := h.below ⟨rfl, rfl, rfl, Nat.le_refl _, fun _ _ => rfl⟩
theorem MkH.new (h : MkH K M bx rs L W) (cs : Array Value) (t : TypeId) {N : Nat} (hN : W.heap.size = N) : MkH K (N :: M) ((N, t, cs) :: bx) rs L (W.alloc (.cells cs t)) := by
  obtain ⟨i, hi, H⟩ := h.it
  exact ⟨h.len, h.base, i, hi, (H.new cs t hN).bperm (List.Perm.swap _ _ _)⟩
theorem MkH.set_ {N : Nat} {t : TypeId} {cs : Array Value} {bx1 bx2 : List Box} (h : MkH K M (bx1 ++ (N, t, cs) :: bx2) rs L W) (i : Nat) (u : Value) : MkH K M (bx1 ++ (N, t, cs.setIfInBounds i u) :: bx2) rs L (W.setCell ⟨N, i, none⟩ u) := by
  obtain ⟨j, hj, H⟩ := h.it
  exact ⟨h.len, h.base, j, hj, HR.set_ (bx1 := (K.gm, 83, #[K.sl, .int .i64 j]) :: bx1) H i u⟩
theorem MkH.set0 {N : Nat} {t : TypeId} {cs : Array Value} {bx2 : List Box} (h : MkH K M ((N, t, cs) :: bx2) rs L W) (i : Nat) (u : Value) : MkH K M ((N, t, cs.setIfInBounds i u) :: bx2) rs L (W.setCell ⟨N, i, none⟩ u) := MkH.set_ (bx1 := []) h i u
theorem MkH.push (h : MkH K M bx rs L W) (e : TypeId) (size : Nat) : MkH K M bx (⟨e, size, .slice none 0 0, 0, []⟩ :: rs) L W := by
  obtain ⟨j, hj, H⟩ := h.it
  exact ⟨h.len, h.base, j, hj, H.push e size⟩
theorem MkH.drop (h : MkH K M bx (r :: rs) L W) : MkH K M bx rs L W := by
  obtain ⟨j, hj, H⟩ := h.it
  exact ⟨h.len, h.base, j, hj, H.drop⟩
theorem MkH.perm {rs' : List Rw} (h : MkH K M bx rs L W) (hp : rs.Perm rs') : MkH K M bx rs' L W := by
  obtain ⟨j, hj, H⟩ := h.it
  exact ⟨h.len, h.base, j, hj, H.perm hp⟩
theorem MkH.boxes {bx' : List Box} (h : MkH K M bx rs L W) (hb : bx'.Sublist bx) : MkH K M bx' rs L W := by
  obtain ⟨j, hj, H⟩ := h.it
  exact ⟨h.len, h.base, j, hj, H.boxes (hb.cons_cons _)⟩
theorem MkH.add (h : MkH K M bx rs L W) {P : List Nat → World → Prop} (hk : Keeps P) (hp : P M W) : MkH K M bx rs (P :: L) W := by
  obtain ⟨j, hj, H⟩ := h.it
  exact ⟨h.len, h.base, j, hj, (H.add hk hp).less fun P hP => by
    rcases List.mem_cons.1 hP with rfl | hP
    · exact .tail _ (.head _)
    · rcases List.mem_cons.1 hP with rfl | hP
      · exact .head _
      · exact .tail _ (.tail _ hP)⟩
theorem MkH.less {L' : List (List Nat → World → Prop)} (h : MkH K M bx rs L W) (hL : ∀ P ∈ L', P ∈ L) : MkH K M bx rs L' W := by
  obtain ⟨j, hj, H⟩ := h.it
  exact ⟨h.len, h.base, j, hj, H.less fun P hP => by
    rcases List.mem_cons.1 hP with rfl | hP
    · exact .head _
    · exact .tail _ (hL P hP)⟩
theorem MkH.box {x : Box} (h : MkH K M bx rs L W) (hx : x ∈ bx) : Blk W x.1 x.2.1 x.2.2 := by
  obtain ⟨j, hj, H⟩ := h.it
  exact H.h.box (.tail _ hx)
theorem MkH.bx_ne {x : Box} (h : MkH K M bx rs L W) (hx : x ∈ bx) : x.1 ∉ [K.gm] := by
  obtain ⟨j, hj, H⟩ := h.it
  have nd := H.h.nd
  rw [List.map_cons, List.nodup_cons] at nd
  rw [List.mem_singleton]
  exact fun e => nd.1 (e ▸ List.mem_map.2 ⟨x, hx, rfl⟩)
theorem MkH.fact {P : List Nat → World → Prop} (h : MkH K M bx rs L W) (hP : P ∈ L) : P M W := by
  obtain ⟨j, hj, H⟩ := h.it
  exact H.h.fact (.tail _ hP)
theorem MkH.mb (h : MkH K M bx rs L W) : ∀ g ∈ M, g < W.heap.size := by
  obtain ⟨j, hj, H⟩ := h.it
  exact H.h.mb
theorem MkH.gmM (h : MkH K M bx rs L W) : K.gm ∈ M := by
  obtain ⟨j, hj, H⟩ := h.it
  exact (H.h.bs _ (.head _)).1
theorem MkH.own (h : MkH K M bx rs L W) : ∀ r ∈ rs, W.ownsRow K.w.heap.size r.e r.size r.v r.n r.xs := by
  obtain ⟨j, hj, H⟩ := h.it
  exact H.own
theorem MkH.form {e : TypeId} {size n : Nat} {v : Value} {xs : List Value} (h : MkH K M bx (⟨e, size, v, n, xs⟩ :: rs) L W) : ∃ A c, v = .slice A n c := own_form (h.own _ (.head _))
/-- A row that a callee made, or a literal. -/
theorem MkH.took (h : MkH K M bx rs L W) (hb : Below W.heap.size W W') {e : TypeId} {size n : Nat} {v : Value} {xs : List Value} (hown : W'.ownsRow W.heap.size e size v n xs) :
    ∃ M', MkH K M' bx (⟨e, size, v, n, xs⟩ :: rs) L W' ∧ ∀ g ∈ M, g ∈ M' := by
  obtain ⟨j, hj, H⟩ := h.it
  obtain ⟨M', H', hs⟩ := H.take hb hown
  exact ⟨M', ⟨h.len, h.base, j, hj, H'⟩, hs⟩
theorem MkH.setRow {e : TypeId} {size n c g k : Nat} {xs : List Value} (h : MkH K M bx (⟨e, size, .slice (some ⟨g, 0, none⟩) n c, n, xs⟩ :: rs) L W) (u : Value) (hk : k < n * size) :
    MkH K M bx (⟨e, size, .slice (some ⟨g, 0, none⟩) n c, n, xs.set k u⟩ :: rs) L (W.setCell ⟨g, k, none⟩ u) := by
  obtain ⟨j, hj, H⟩ := h.it
  exact ⟨h.len, h.base, j, hj, H.setRow u hk⟩
theorem MkH.freeze {α : Type} [Mem α] {l : List α} {e : TypeId} {size n : Nat} {v : Value} {xs : List Value} (h : MkH K M bx (⟨e, size, v, n, xs⟩ :: rs) L W) (hs : size = Mem.sz α) (hn : n = l.length) (hf : Flat M W l xs) :
    ∃ A c M', v = .slice A l.length c ∧ l.length ≤ c ∧ c ≤ 9223372036854775807 ∧ MkH K M' bx rs ((fun M W => SlAt M W A l) :: L) W ∧ ∀ g ∈ M', g ∈ M := by
  obtain ⟨j, hj, H⟩ := h.it
  obtain ⟨A, c, M', h1, h2, h3, h4, h5, _⟩ := H.freeze hs hn hf h.base
  refine ⟨A, c, M', h1, h2, h3, ⟨h.len, h.base, j, hj, h4.less fun P hP => ?_⟩, h5⟩
  rcases List.mem_cons.1 hP with rfl | hP
  · exact .tail _ (.head _)
  · rcases List.mem_cons.1 hP with rfl | hP
    · exact .head _
    · exact .tail _ (.tail _ hP)
variable {P : Program}
theorem wpList_append_mk {ops : Array Oper} {rest : List Oper} {o : Oper} {a : Act} {Q : Exit → Act → World → Prop} (hgd : o.guard = none) (s x : Operand) (t : TypeId)
    (ho : o.op = .call { callee := .builtin .append, args := #[s, x], argTypes := #[t, t] })
    (e : TypeId) (i : TypeInfo) (z : Value) (size bytes : Nat) (ht : P.underlying t = some (.slice e)) (hi : P.info? e = some i) (hz : i.zero = some z)
    (hsize : i.size = size) (hby : i.bytes = bytes) (hzs : z.cells.size = size) (hsz : 0 < size)
    {v : Value} {n : Nat} {xs : List Value} (H : MkH K M bx (⟨e, size, v, n, xs⟩ :: rs) L W) (hs : a.eval s = v)
    (B : Nat) (A : Option Addr) (m c : Nat) (news : List Value) (hx : a.eval x = .slice A m c) (hr : Reads W B size A m news) (h1 : ∀ u ∈ news, u.oneCell' = true)
    (h63 : n + m ≤ maxLen) (hbytes : (n + m) * bytes ≤ 140737488355328)
    (h : ∀ v' W' M', MkH K M' bx (⟨e, size, v', n + m, xs ++ news⟩ :: rs) L W' → (∀ g ∈ M, g ∈ M') → wpList P ops Q rest (a.put o.dst v') W') : wpList P ops Q (o :: rest) a W := by
  obtain ⟨j, hj, H'⟩ := H.it
  exact wpList_append_rows hgd s x t ho e i z size bytes ht hi hz hsize hby hzs hsz H' hs B A m c news hx hr h1 h63 hbytes fun v' W' M' h2 h3 => h v' W' M' ⟨H.len, H.base, j, hj, h2⟩ h3
end
/-- A block of elements. -/
theorem slAt_blk {α : Type} [Mem α] {G : List Nat} {w : World} {g : Nat} {t : TypeId} {cs : Array Value} {l : List α} (h : Blk w g t cs) (hg : g ∉ G) (hf : Flat G w l cs.toList) : SlAt G w (some ⟨g, 0, none⟩) l := by
  refine .inr ⟨g, 0, rfl, h.lt, hg, fun i hi => ?_⟩
  obtain ⟨us, h1, h2⟩ := hf.get i hi
  refine ⟨us, h1, fun j u hu => ?_⟩
  rw [Nat.zero_add, h.cell]
  have := h2 j u hu
  simpa using this
/-- A literal that was made since a world. -/
def LitT (B n : Nat) (t : TypeId) (Q : Array Value → Prop) (v : Value) (w : World) : Prop := ∃ cs N, v = .slice (some ⟨N, 0, none⟩) n n ∧ Q cs ∧ B ≤ N ∧ Blk w N t cs
theorem litT_kept (K : MkK) (B n : Nat) (t : TypeId) (Q : Array Value → Prop) (hB : K.gm < B) : @RG.Kept K.grow (LitT B n t Q) := by
  rintro v w w' ⟨cs, N, h1, h2, h3, h4⟩ hr
  exact ⟨cs, N, h1, h2, h3, ((MkR.chg hr).block N h4.lt (by simp; omega)).trans h4⟩
theorem MkH.gmLt {K : MkK} {M : List Nat} {bx : List Box} {rs : List Rw} {L : List (List Nat → World → Prop)} {W : World} (h : MkH K M bx rs L W) : K.gm < W.heap.size := h.mb _ h.gmM
theorem MkK.drew (K : MkK) (W : World) : K.R W W.drew := MkR.below ⟨rfl, rfl, rfl, Nat.le_refl _, fun _ _ => rfl⟩
theorem MkK.grown (K : MkK) {W W' : World} (h : Below W.heap.size W W') : K.R W W' := MkR.below h
theorem MkK.trans (K : MkK) {W W' W'' : World} (h : K.R W W') (k : K.R W' W'') : K.R W W'' := MkR.trans h k
theorem MkK.size (K : MkK) {W W' : World} (h : K.R W W') : W.heap.size ≤ W'.heap.size := h.chg.size
/-- A literal that the call made, as data. -/
theorem MkH.lit {K : MkK} {M : List Nat} {bx : List Box} {rs : List Rw} {L : List (List Nat → World → Prop)} {W : World} {α : Type} [Mem α] {l : List α} {t : TypeId} {cs : Array Value} (h : MkH K M bx rs L W) {N : Nat} (hb : Blk W N t cs) (hN : N ∉ M) (hf : Flat M W l cs.toList) : MkH K M bx rs ((fun M W => SlAt M W (some ⟨N, 0, none⟩) l) :: L) W :=
  h.add (keeps_sl _ l) (slAt_blk hb hN hf)
theorem fld_mk {G : List Nat} {w : World} {nm of_ up : ByteArray} {kd lo hi : Int} {ws : List ByteArray} {wt : List Int} {vw vt : Value} (h1 : nm.size ≤ 9223372036854775807) (h2 : of_.size ≤ 9223372036854775807) (h3 : up.size ≤ 9223372036854775807) (h4 : inI kd) (h5 : inI lo) (h6 : inI hi) (h7 : Rep G w ws vw) (h8 : Rep G w wt vt) :
    Mem.rep G w ((nm, of_, up, kd, lo, hi, ws, wt) : Fld) [.string nm, .string of_, .string up, .int .i64 kd, .int .i64 lo, .int .i64 hi, vw, vt] :=
  ⟨[_], _, rfl, ⟨rfl, h1⟩, [_], _, rfl, ⟨rfl, h2⟩, [_], _, rfl, ⟨rfl, h3⟩, [_], _, rfl, ⟨rfl, h4⟩, [_], _, rfl, ⟨rfl, h5⟩, [_], _, rfl, ⟨rfl, h6⟩, [_], _, rfl, h7, h8⟩
theorem rep_nil {α : Type} [Mem α] {G : List Nat} {w : World} : Rep G w ([] : List α) (.slice none 0 0) := ⟨none, 0, rfl, Nat.le_refl _, by decide, SlAt.nil⟩
end Go.Proofs.YtdpcdocaahjeoaaDoor
