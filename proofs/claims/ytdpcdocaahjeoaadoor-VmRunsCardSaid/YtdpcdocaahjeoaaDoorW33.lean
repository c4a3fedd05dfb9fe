/- Maker.plain. -/
import Derived.Test.YtdpcdocaahjeoaaDoorM9
namespace Go.Proofs.YtdpcdocaahjeoaaDoor
open Go Go.RowKit
theorem infoI1 : (Tryd.prog.info? 3).map (fun i => (i.zero, i.size, i.bytes)) = some (some (.int .i64 0), 1, 8) := by kernel_rfl
theorem owns_blk {w : World} {base size n c : Nat} {e : TypeId} {A : Option Addr} {xs : List Value} (h : w.ownsRow base e size (.slice A n c) n xs) (hn : 0 < n) : ∃ g cur, A = some ⟨g, 0, none⟩ ∧ Blk w g e cur ∧ cur.toList.take (n * size) = xs := by
  rcases h.2 with ⟨hv, h0⟩ | ⟨g, cap, cur, hv, _, hh, _, _, _, ht⟩
  · omega
  · injection hv with h1 h2 h3
    exact ⟨g, cur, h1, hh, ht⟩
namespace Sg
def bsz : ByteArray := ⟨#[115, 105, 122, 101]⟩
def btag : ByteArray := ⟨#[116, 97, 103]⟩
def bborn : ByteArray := ⟨#[98, 111, 114, 110]⟩
def bleft : ByteArray := ⟨#[108, 101, 102, 116]⟩
def bstate : ByteArray := ⟨#[115, 116, 97, 116, 101]⟩
def blife : ByteArray := ⟨#[108, 105, 102, 101]⟩
def blow : ByteArray := ⟨#[108, 111, 119]⟩
def bhigh : ByteArray := ⟨#[104, 105, 103, 104]⟩
def be : ByteArray := ⟨#[]⟩
def colors : List ByteArray := [⟨#[114, 101, 100]⟩, ⟨#[103, 114, 101, 101, 110]⟩, ⟨#[98, 108, 117, 101]⟩]
/-- What plain gives. -/
inductive Plain : List Fld → Prop
  | none : Plain []
  | size (lo d : Int) : -5 ≤ lo → lo ≤ 5 → 0 ≤ d → d ≤ 19 → Plain [(bsz, be, be, 2, lo, lo + d, [], [])]
  | tag (k : Nat) (ws : List Int) : 1 ≤ k → k ≤ 3 → ws.length = k → (∀ x ∈ ws, 0 ≤ x ∧ x ≤ 4) → 1 ≤ ws.sum → Plain [(btag, be, be, 3, 0, 0, colors.take k, ws)]
  | born (lo d lo2 d2 : Int) : -200 ≤ lo → lo ≤ 199 → 0 ≤ d → d ≤ 59 → 0 ≤ lo2 → lo2 ≤ 2 → 0 ≤ d2 → d2 ≤ 29 → Plain [(bborn, be, be, 4, lo, lo + d, [], []), (bleft, bborn, be, 4, lo2, 3 + d2, [], [])]
  | state (lo d : Int) : 0 ≤ lo → lo ≤ 2 → 0 ≤ d → d ≤ 3 → Plain [(bstate, blife, be, 5, lo, lo + d, [], [])]
  | low (a b c d : Int) : 0 ≤ a → a ≤ 4 → 0 ≤ b → b ≤ 9 → 0 ≤ c → c ≤ 4 → 0 ≤ d → d ≤ 9 → Plain [(blow, be, be, 2, a, 5 + b, [], []), (bhigh, be, be, 2, c, 10 + d, [], [])]
end Sg
theorem flat_ints {G : List Nat} {w : World} : ∀ {l : List Int}, (∀ x ∈ l, inI x) → Flat G w l (intVals l)
  | [], _ => rfl
  | x :: l, h => ⟨[.int .i64 x], intVals l, rfl, ⟨rfl, h x (.head _)⟩, flat_ints fun y hy => h y (.tail _ hy)⟩
theorem intVals_set (l : List Int) (k : Nat) (x : Int) : (intVals l).set k (.int .i64 x) = intVals (l.set k x) := by unfold intVals; rw [List.map_set]
theorem mem_set_le {ws : List Int} (h : ∀ x ∈ ws, 0 ≤ x ∧ x ≤ 4) (z : Nat) (y : Int) (h1 : 0 ≤ y) (h2 : y ≤ 3) : ∀ x ∈ ws.set z y, 0 ≤ x ∧ x ≤ 4 := fun x hx => by
  rcases List.mem_or_eq_of_mem_set hx with hx | rfl
  · exact h x hx
  · omega
theorem sum_nonneg {ws : List Int} (h : ∀ x ∈ ws, 0 ≤ x ∧ x ≤ 4) : 0 ≤ ws.sum := by
  induction ws with
  | nil => simp
  | cons a l ih => rw [List.sum_cons]; have := h a (.head _); have := ih fun x hx => h x (.tail _ hx); omega
theorem sum_set : ∀ {ws : List Int}, (∀ x ∈ ws, 0 ≤ x ∧ x ≤ 4) → ∀ (z : Nat) (y : Int), 1 ≤ y → z < ws.length → 1 ≤ (ws.set z y).sum
  | [], _, _, _, _, hz => by simp at hz
  | a :: l, h, 0, y, hy, _ => by
    rw [List.set_cons_zero, List.sum_cons]; have := sum_nonneg fun x hx => h x (.tail _ hx); omega
  | a :: l, h, z + 1, y, hy, hz => by
    rw [List.set_cons_succ, List.sum_cons]; have := h a (.head _); have := sum_set (fun x hx => h x (.tail _ hx)) z y hy (by simpa using hz); omega
/-- What a call of plain leaves. -/
def PlainP (K : MkK) (bx : List Box) (rs : List Rw) (L : List (List Nat → World → Prop)) (e : Ending) (w' : World) : Prop :=
  ∃ A fs c M', e = .returned (.slice A fs.length c) ∧ fs.length ≤ c ∧ c ≤ 9223372036854775807 ∧ Sg.Plain fs ∧ MkH K M' bx rs ((fun M W => SlAt M W A fs) :: L) w'
section
variable {K : MkK} {M : List Nat} {bx : List Box} {rs : List Rw} {L : List (List Nat → World → Prop)} {W W' : World}
theorem plainP_none (h : MkH K M bx rs L W) : PlainP K bx rs L (.returned (.slice none 0 0)) W := ⟨none, [], 0, M, rfl, Nat.le_refl _, by decide, .none, h.add (keeps_sl none []) SlAt.nil⟩
theorem plainP_of {A : Option Addr} {fs : List Fld} {n c : Nat} (h : MkH K M bx rs ((fun M W => SlAt M W A fs) :: L) W) (hp : Sg.Plain fs) (hn : n = fs.length) (hc : n ≤ c) (hm : c ≤ 9223372036854775807) : PlainP K bx rs L (.returned (.slice A n c)) W := by
  subst hn
  exact ⟨A, fs, c, M, rfl, hc, hm, hp, h⟩
theorem flat_colors {G : List Nat} {w : World} : Flat G w Sg.colors #[Value.string ⟨#[114, 101, 100]⟩, .string ⟨#[103, 114, 101, 101, 110]⟩, .string ⟨#[98, 108, 117, 101]⟩].toList :=
  ⟨[_], _, rfl, ⟨rfl, by decide⟩, [_], _, rfl, ⟨rfl, by decide⟩, [_], _, rfl, ⟨rfl, by decide⟩, rfl⟩
/-- A literal of fields is what the call returns. -/
theorem plainP_lit (h : MkH K M bx rs L W) {fs : List Fld} {cs : Array Value} {t : TypeId} {N n : Nat} (hN : W.heap.size = N) (hn : n = fs.length) (hp : Sg.Plain fs) (hf : Flat M W fs cs.toList) : PlainP K bx rs L (.returned (.slice (some ⟨N, 0, none⟩) n n)) (W.alloc (.cells cs t)) := by
  subst hn hN
  have hb : Below W.heap.size W (W.alloc (.cells cs t)) := (Below.refl _ _).alloc (Nat.le_refl _) _
  have hlen : fs.length ≤ 2 := by cases hp <;> simp
  refine ⟨_, fs, fs.length, M, rfl, Nat.le_refl _, by omega, hp, (h.below hb).add (keeps_sl _ fs) (slAt_blk (Blk.new _ _ _) (fun hm => ?_) (hf.keep (Chg.of_below hb)))⟩
  have := h.mb _ hm
  omega
end
section
variable {K : MkK} {M : List Nat} {bx : List Box} {rs : List Rw} {L : List (List Nat → World → Prop)} {W W' : World}
/-- The end of the branch tag: its weights are done. -/
theorem plainP_tag {N F g k : Nat} {t : TypeId} {c : Nat} {ws : List Int} {cs : Array Value} (h : MkH K M ((F, t, cs) :: bx) (⟨3, 1, .slice (some ⟨g, 0, none⟩) k c, k, intVals ws⟩ :: rs) ((fun M W => SlAt M W (some ⟨N, 0, none⟩) Sg.colors) :: L) W) (hl : ws.length = k) (hk : 1 ≤ k) (hk3 : k ≤ 3) (hw : ∀ x ∈ ws, 0 ≤ x ∧ x ≤ 4) (hs : 1 ≤ ws.sum) {N2 : Nat} (hN : W.heap.size = N2) {t2 : TypeId} {u : Value} (hu : u = .slice (some ⟨N, 0, none⟩) k 3) :
    PlainP K bx rs L (.returned (.slice (some ⟨N2, 0, none⟩) 1 1)) (W.alloc (.cells #[.string Sg.btag, .string Sg.be, .string Sg.be, .int .i64 3, .int .i64 0, .int .i64 0, u, .slice (some ⟨g, 0, none⟩) k c] t2)) := by
  subst hu hl
  obtain ⟨A, c', M', e, hc1, hc2, h', _⟩ := h.freeze (α := Int) (l := ws) rfl rfl (flat_ints fun x hx => by have := hw x hx; unfold inI; omega)
  injection e with e1 _ e3
  subst e1 e3
  have f1 := h'.fact (.head _)
  have f2 := (h'.fact (.tail _ (.head _))).take ws.length
  have hp := Sg.Plain.tag ws.length ws hk hk3 rfl hw hs
  have hlen : (Sg.colors.take ws.length).length = ws.length := by rw [List.length_take]; show min _ 3 = _; omega
  refine plainP_lit ((h'.boxes (.cons _ (List.Sublist.refl _))).less fun P hP => .tail _ (.tail _ hP)) hN rfl hp (Flat.single (fld_mk ?_ ?_ ?_ ⟨?_, ?_⟩ ⟨?_, ?_⟩ ⟨?_, ?_⟩ ⟨_, 3, by rw [hlen], by omega, by omega, f2⟩ ⟨_, c, rfl, hc1, hc2, f1⟩)) <;> decide
end
set_option maxRecDepth 100000 in
set_option maxHeartbeats 8000000 in
theorem gplain_any {K : MkK} {M : List Nat} {bx : List Box} {rs : List Rw} {L : List (List Nat → World → Prop)} {W : World} (h : MkH K M bx rs L W) : Calls Tryd.prog 66 #[K.p] W (PlainP K bx rs L) := by
  have H := Lib.hid h
  clear h
  go_enter Tryd.func66, Tryd.ntmps66
  go_wp2_with fail
  go_at_call 32
  refine (H.out.take _ (by omega) (by omega)).mono ?_
  rintro e w1 ⟨z, rfl, z1, z2, hr⟩
  replace H := Lib.hid (H.out.turn hr); clear hr
  rcases (show z = 0 ∨ z = 1 ∨ z = 2 ∨ z = 3 ∨ z = 4 ∨ z = 5 by omega) with rfl | rfl | rfl | rfl | rfl | rfl
  · go_wp2_with fail
    go_at_call 32
    refine (H.out.take _ (by omega) (by omega)).mono ?_
    rintro e w1 ⟨a, rfl, a1, a2, hr⟩
    replace H := Lib.hid (H.out.turn hr); clear hr
    go_wp2_with fail
    go_at_call 32
    refine (H.out.take _ (by omega) (by omega)).mono ?_
    rintro e w1 ⟨b, rfl, b1, b2, hr⟩
    replace H := Lib.hid (H.out.turn hr); clear hr
    go_wp2_with fail
    go_ret
    have hp := Sg.Plain.size (a - 5) b (by omega) (by omega) (by omega) (by omega)
    refine plainP_lit H.out rfl rfl hp (Flat.single (fld_mk ?_ ?_ ?_ ⟨?_, ?_⟩ ⟨?_, ?_⟩ ⟨?_, ?_⟩ rep_nil rep_nil)) <;> first | omega | decide
  · go_wp2_with fail
    have hb0 := Lib.hid (show Below w1.heap.size w1 (w1.alloc (.cells #[.string ⟨#[114, 101, 100]⟩, .string ⟨#[103, 114, 101, 101, 110]⟩, .string ⟨#[98, 108, 117, 101]⟩] 9)) from (Below.refl _ _).alloc (Nat.le_refl _) _)
    replace H := Lib.hid ((H.out.below hb0.out).lit (l := Sg.colors) (Blk.new _ _ _) (fun hm => by have := H.out.mb _ hm; omega) flat_colors)
    generalize hW1 : (w1.alloc _) = W1 at H ⊢
    generalize w1.heap.size = N at H ⊢
    clear hW1 hb0
    clear w1
    go_at_call 32
    refine (H.out.take _ (by omega) (by omega)).mono ?_
    rintro e w1 ⟨a, rfl, a1, a2, hr⟩
    replace H := Lib.hid (H.out.turn hr); clear hr
    go_wp2_with fail
    rcases (show a = 0 ∨ a = 1 ∨ a = 2 by omega) with rfl | rfl | rfl
    · replace H := Lib.hid ((H.out.new #[.string ⟨#[116, 97, 103]⟩, .string ⟨#[]⟩, .string ⟨#[]⟩, .int .i64 3, .int .i64 0, .int .i64 0, .slice (some ⟨N, 0, none⟩) 1 3, .slice none 0 0] 96 rfl).push 3 1)
      generalize w1.heap.size = F at H ⊢
      go_loopg [6] 1 (fun r i wr => ∃ (j : Nat) (M1 : List Nat) (v : Value) (ws : List Int), j + r = 1 ∧ i = .int .i64 j ∧ ws.length = j ∧ (∀ x ∈ ws, 0 ≤ x ∧ x ≤ 4) ∧ MkH K M1 ((F, 96, #[.string ⟨#[116, 97, 103]⟩, .string ⟨#[]⟩, .string ⟨#[]⟩, .int .i64 3, .int .i64 0, .int .i64 0, .slice (some ⟨N, 0, none⟩) 1 3, v]) :: bx) (⟨3, 1, v, j, intVals ws⟩ :: rs) ((fun M W => SlAt M W (some ⟨N, 0, none⟩) Sg.colors) :: L) wr)
      case atStart => exact ⟨0, _, _, [], by omega, rfl, rfl, (fun _ h => by cases h), H.out⟩
      case round =>
        obtain ⟨j, M1, v, ws, hj, rfl, hl, hb, hT⟩ := hrel
        have T := Lib.hid hT; have HWS := Lib.hid hb
        clear hT hb H
        have hq := T.out.box (.head _); have q7 := hq.cell 7; (simp at q7); clear hq
        obtain ⟨wo, rfl⟩ : ∃ wo : World, wo = wr := ⟨_, rfl⟩
        by_cases hlt : j < 1
        · have k1 : (j : Int) < 1 := by omega
          go_wp2_with fail
          letI : Grow := K.grow
          apply RG.wp_region_typed (C := fun w' => K.R wo w') (n := 103) (m := 5) (l1 := [_, _, _, _, _]) (l2 := [_, _, _])
          · rfl
          · rfl
          · kernel_rfl
          · rfl
          · kernel_rfl
          · exact K.drew wo
          · exact fun u u' h hb => h.trans hb
          iterate 3 ((apply RG.wpT_exact; · (intro w' hC hf; unfold RG.Gives; have q := (T.out.turn hC).box (.head _); have q7 := q.cell 7; (simp at q7); clear q; clear hf hC; go_wp2_with (fail); apply RG.postT_val rfl (Grow.refl _); simp only [RG.valAt, Array.getD_eq_getD_getElem?, List.getElem?_toArray, List.getElem?_cons_succ, List.getElem?_cons_zero, Option.getD_some]; exact rfl)); (try simp only [Act.put, List.setIfInBounds_toArray, List.set_cons_zero, List.set_cons_succ]))
          apply RG.wpT_typed (T := fun v _ => ∃ z : Int, v = .int .i64 z ∧ 0 ≤ z ∧ z < 5) (fun v w w' h _ => h)
          · intro w' hC hf; unfold RG.Gives; clear hf
            go_wp2_with fail
            go_at_call 32
            refine ((T.out.turn hC).take 5 (by omega) (by omega)).mono ?_
            rintro e w3 ⟨v, rfl, v1, v2, hr⟩
            go_wp2_with fail
            refine RG.postT_mk rfl hr ?_; simp only [RG.valAt, Array.getD_eq_getD_getElem?, List.getElem?_toArray, List.getElem?_cons_succ, List.getElem?_cons_zero, Option.getD_some]; exact ⟨_, rfl, v1, v2⟩
          intro v41; (try simp only [Act.put, List.setIfInBounds_toArray, List.set_cons_zero, List.set_cons_succ])
          apply RG.wpT_typed (litT_kept K wo.heap.size 1 3 (fun cs => ∃ z : Int, cs = #[.int .i64 z] ∧ 0 ≤ z ∧ z < 5) T.out.gmLt)
          · intro w' hC hf; unfold RG.Gives; obtain ⟨z, rfl, z1, z2⟩ := hf.1 rfl; clear hf
            have hs := Lib.hid (K.size hC)
            clear hC
            go_wp2_with fail
            refine RG.postT_mk rfl (K.grown (by go_grown)) ?_; simp only [RG.valAt, Array.getD_eq_getD_getElem?, List.getElem?_toArray, List.getElem?_cons_succ, List.getElem?_cons_zero, Option.getD_some]
            exact ⟨_, _, rfl, ⟨z, rfl, z1, z2⟩, hs.out, Blk.new _ _ _⟩
          intro v42; (try simp only [Act.put, List.setIfInBounds_toArray, List.set_cons_zero, List.set_cons_succ])
          apply RG.wpT_done
          intro w4 hC hall
          obtain ⟨cs, N2, rfl, ⟨z, rfl, z1, z2⟩, hge, hblk⟩ := hall.1
          obtain ⟨i0, hi, hz0, hz1, hz2⟩ := info_parts infoI1
          refine wpList_append_mk (by rfl) _ _ 22 (by rfl) 3 i0 _ 1 8 Tryd.underlying22 hi hz0 hz1 hz2 rfl (by decide) (T.out.turn hC) (by rfl) _ _ 1 1 [.int .i64 z] (by rfl) (reads_blk hblk rfl) (intVals_one [z]) (by unfold maxLen; omega) (by omega) ?_
          intro v5 w5 M5 h5 _
          obtain ⟨A5, c5, rfl⟩ := h5.form
          have hq := h5.box (.head _); have f7 := hq.frozen 7; have d7 := hq.cell 7; (simp at d7); clear hq
          have T5 := Lib.hid (h5.set0 7 (.slice A5 (j + 1) c5))
          clear h5 hblk hC hall hi hz0 hz1 hz2 q7 T this
          go_wp2_with fail
          go_roundg (gk - 1)
          case measure => omega
          case rel =>
            refine ⟨j + 1, M5, .slice A5 (j + 1) c5, ws ++ [z], by omega, by go_num, by rw [List.length_append, hl]; rfl, fun x hx => ?_, by rw [intVals_append]; exact T5.out⟩
            rcases List.mem_append.1 hx with hx | hx
            · exact HWS.out x hx
            · rw [List.mem_singleton.1 hx]; omega
        · have hjk : j = 1 := by omega
          subst hjk
          obtain ⟨A, c, rfl⟩ := T.out.form
          obtain ⟨g, rfl, hcell⟩ := owns_cell (T.out.own _ (.head _)) (by decide)
          go_wp2_with fail
          letI : Grow := K.grow
          apply RG.wp_region_typed (C := fun w' => K.R wo w') (n := 103) (m := 10) (l1 := [_, _, _, _, _, _, _, _, _, _]) (l2 := [_])
          · rfl
          · rfl
          · kernel_rfl
          · rfl
          · kernel_rfl
          · exact K.drew wo
          · exact fun u u' h hb => h.trans hb
          iterate 5 ((apply RG.wpT_exact; · (intro w' hC hf; unfold RG.Gives; have q := (T.out.turn hC).box (.head _); have q7 := q.cell 7; (simp at q7); clear q; clear hf hC; go_wp2_with (fail); apply RG.postT_val rfl (Grow.refl _); simp only [RG.valAt, Array.getD_eq_getD_getElem?, List.getElem?_toArray, List.getElem?_cons_succ, List.getElem?_cons_zero, Option.getD_some]; exact rfl)); (try simp only [Act.put, List.setIfInBounds_toArray, List.set_cons_zero, List.set_cons_succ]))
          apply RG.wpT_typed (T := fun v _ => ∃ z : Nat, v = .int .i64 z ∧ z < 1) (fun v w w' h _ => h)
          · intro w' hC hf; unfold RG.Gives; clear hf
            go_wp2_with fail
            go_at_call 32
            refine ((T.out.turn hC).take 1 (by omega) (by omega)).mono ?_
            rintro e w3 ⟨v, rfl, v1, v2, hr⟩
            obtain ⟨z, rfl⟩ : ∃ z : Nat, v = z := ⟨v.toNat, by omega⟩
            go_wp2_with fail
            refine RG.postT_mk rfl hr ?_; simp only [RG.valAt, Array.getD_eq_getD_getElem?, List.getElem?_toArray, List.getElem?_cons_succ, List.getElem?_cons_zero, Option.getD_some]; exact ⟨z, rfl, by omega⟩
          intro v50; (try simp only [Act.put, List.setIfInBounds_toArray, List.set_cons_zero, List.set_cons_succ])
          (apply RG.wpT_exact; · (intro w' hC hf; unfold RG.Gives; clear hf hC; go_wp2_with (fail); apply RG.postT_val rfl (Grow.refl _); simp only [RG.valAt, Array.getD_eq_getD_getElem?, List.getElem?_toArray, List.getElem?_cons_succ, List.getElem?_cons_zero, Option.getD_some]; exact rfl)); (try simp only [Act.put, List.setIfInBounds_toArray, List.set_cons_zero, List.set_cons_succ])
          apply RG.wpT_typed (T := fun v _ => ∃ z : Int, v = .int .i64 z ∧ 0 ≤ z ∧ z < 3) (fun v w w' h _ => h)
          · intro w' hC hf; unfold RG.Gives; clear hf
            go_wp2_with fail
            go_at_call 32
            refine ((T.out.turn hC).take 3 (by omega) (by omega)).mono ?_
            rintro e w3 ⟨v, rfl, v1, v2, hr⟩
            go_wp2_with fail
            refine RG.postT_mk rfl hr ?_; simp only [RG.valAt, Array.getD_eq_getD_getElem?, List.getElem?_toArray, List.getElem?_cons_succ, List.getElem?_cons_zero, Option.getD_some]; exact ⟨_, rfl, v1, v2⟩
          intro v52; (try simp only [Act.put, List.setIfInBounds_toArray, List.set_cons_zero, List.set_cons_succ])
          apply RG.wpT_typed (T := fun v _ => ∃ z : Int, v = .int .i64 (1 + z) ∧ 0 ≤ z ∧ z < 3) (fun v w w' h _ => h)
          · intro w' hC hf; unfold RG.Gives; obtain ⟨z, rfl, z1, z2⟩ := hf.1 rfl; clear hf hC
            go_wp2_with fail
            refine RG.postT_mk rfl (Grow.refl _) ?_; simp only [RG.valAt, Array.getD_eq_getD_getElem?, List.getElem?_toArray, List.getElem?_cons_succ, List.getElem?_cons_zero, Option.getD_some]; exact ⟨_, rfl, z1, z2⟩
          intro v53; (try simp only [Act.put, List.setIfInBounds_toArray, List.set_cons_zero, List.set_cons_succ])
          apply RG.wpT_typed (T := fun v _ => ∃ z : Nat, v = .pointer (some ⟨g, z, none⟩) ∧ z < 1) (fun v w w' h _ => h)
          · intro w' hC hf; unfold RG.Gives; obtain ⟨z, rfl, z1⟩ := hf.2.2.1 rfl; clear hf hC
            go_wp2_with fail
            refine RG.postT_mk rfl (Grow.refl _) ?_; simp only [RG.valAt, Array.getD_eq_getD_getElem?, List.getElem?_toArray, List.getElem?_cons_succ, List.getElem?_cons_zero, Option.getD_some]; exact ⟨z, by first | rfl | simp [Addr.add], z1⟩
          intro v54; (try simp only [Act.put, List.setIfInBounds_toArray, List.set_cons_zero, List.set_cons_succ])
          apply RG.wpT_done
          intro w4 hC hall
          obtain ⟨z, rfl, z1⟩ := hall.1
          obtain ⟨x, rfl, x1, x2⟩ := hall.2.1
          have T4 := Lib.hid (T.out.turn hC)
          clear hall hC hcell T this q7
          obtain ⟨g', cur, hg', hblk, _⟩ := owns_blk (T4.out.own _ (.head _)) (by decide)
          obtain rfl : g = g' := by injection hg' with h; injection h
          have fz := hblk.frozen z
          obtain ⟨_, hgg, hcell⟩ := owns_cell (T4.out.own _ (.head _)) (by decide)
          obtain rfl : g = _ := by injection hgg with h; injection h
          have dz := hcell z (.int .i64 (ws[z]'(by omega))) (by unfold intVals; rw [List.getElem?_map, List.getElem?_eq_getElem (by omega)]; rfl)
          have T5 := Lib.hid (T4.out.setRow (.int .i64 (1 + x)) (k := z) (by omega))
          clear hg' hgg hcell hblk T4
          have hq := T5.out.box (.head _); have q0 := hq.cell 0; have q1 := hq.cell 1; have q2 := hq.cell 2; have q3 := hq.cell 3; have q4 := hq.cell 4; have q5 := hq.cell 5; have q6 := hq.cell 6; have q7 := hq.cell 7; (simp at q0 q1 q2 q3 q4 q5 q6 q7); clear hq
          go_wp2_with fail
          go_ret
          have T6 := T5.out
          rw [intVals_set] at T6
          exact plainP_tag T6 (by rw [List.length_set]; exact hl) (by decide) (by decide) (mem_set_le HWS.out z _ (by omega) (by omega)) (sum_set HWS.out z _ (by omega) (by omega)) (by simp [World.setCell]) rfl
    · replace H := Lib.hid ((H.out.new #[.string ⟨#[116, 97, 103]⟩, .string ⟨#[]⟩, .string ⟨#[]⟩, .int .i64 3, .int .i64 0, .int .i64 0, .slice (some ⟨N, 0, none⟩) 2 3, .slice none 0 0] 96 rfl).push 3 1)
      generalize w1.heap.size = F at H ⊢
      go_loopg [6] 2 (fun r i wr => ∃ (j : Nat) (M1 : List Nat) (v : Value) (ws : List Int), j + r = 2 ∧ i = .int .i64 j ∧ ws.length = j ∧ (∀ x ∈ ws, 0 ≤ x ∧ x ≤ 4) ∧ MkH K M1 ((F, 96, #[.string ⟨#[116, 97, 103]⟩, .string ⟨#[]⟩, .string ⟨#[]⟩, .int .i64 3, .int .i64 0, .int .i64 0, .slice (some ⟨N, 0, none⟩) 2 3, v]) :: bx) (⟨3, 1, v, j, intVals ws⟩ :: rs) ((fun M W => SlAt M W (some ⟨N, 0, none⟩) Sg.colors) :: L) wr)
      case atStart => exact ⟨0, _, _, [], by omega, rfl, rfl, (fun _ h => by cases h), H.out⟩
      case round =>
        obtain ⟨j, M1, v, ws, hj, rfl, hl, hb, hT⟩ := hrel
        have T := Lib.hid hT; have HWS := Lib.hid hb
        clear hT hb H
        have hq := T.out.box (.head _); have q7 := hq.cell 7; (simp at q7); clear hq
        obtain ⟨wo, rfl⟩ : ∃ wo : World, wo = wr := ⟨_, rfl⟩
        by_cases hlt : j < 2
        · have k1 : (j : Int) < 2 := by omega
          go_wp2_with fail
          letI : Grow := K.grow
          apply RG.wp_region_typed (C := fun w' => K.R wo w') (n := 103) (m := 5) (l1 := [_, _, _, _, _]) (l2 := [_, _, _])
          · rfl
          · rfl
          · kernel_rfl
          · rfl
          · kernel_rfl
          · exact K.drew wo
          · exact fun u u' h hb => h.trans hb
          iterate 3 ((apply RG.wpT_exact; · (intro w' hC hf; unfold RG.Gives; have q := (T.out.turn hC).box (.head _); have q7 := q.cell 7; (simp at q7); clear q; clear hf hC; go_wp2_with (fail); apply RG.postT_val rfl (Grow.refl _); simp only [RG.valAt, Array.getD_eq_getD_getElem?, List.getElem?_toArray, List.getElem?_cons_succ, List.getElem?_cons_zero, Option.getD_some]; exact rfl)); (try simp only [Act.put, List.setIfInBounds_toArray, List.set_cons_zero, List.set_cons_succ]))
          apply RG.wpT_typed (T := fun v _ => ∃ z : Int, v = .int .i64 z ∧ 0 ≤ z ∧ z < 5) (fun v w w' h _ => h)
          · intro w' hC hf; unfold RG.Gives; clear hf
            go_wp2_with fail
            go_at_call 32
            refine ((T.out.turn hC).take 5 (by omega) (by omega)).mono ?_
            rintro e w3 ⟨v, rfl, v1, v2, hr⟩
            go_wp2_with fail
            refine RG.postT_mk rfl hr ?_; simp only [RG.valAt, Array.getD_eq_getD_getElem?, List.getElem?_toArray, List.getElem?_cons_succ, List.getElem?_cons_zero, Option.getD_some]; exact ⟨_, rfl, v1, v2⟩
          intro v41; (try simp only [Act.put, List.setIfInBounds_toArray, List.set_cons_zero, List.set_cons_succ])
          apply RG.wpT_typed (litT_kept K wo.heap.size 1 3 (fun cs => ∃ z : Int, cs = #[.int .i64 z] ∧ 0 ≤ z ∧ z < 5) T.out.gmLt)
          · intro w' hC hf; unfold RG.Gives; obtain ⟨z, rfl, z1, z2⟩ := hf.1 rfl; clear hf
            have hs := Lib.hid (K.size hC)
            clear hC
            go_wp2_with fail
            refine RG.postT_mk rfl (K.grown (by go_grown)) ?_; simp only [RG.valAt, Array.getD_eq_getD_getElem?, List.getElem?_toArray, List.getElem?_cons_succ, List.getElem?_cons_zero, Option.getD_some]
            exact ⟨_, _, rfl, ⟨z, rfl, z1, z2⟩, hs.out, Blk.new _ _ _⟩
          intro v42; (try simp only [Act.put, List.setIfInBounds_toArray, List.set_cons_zero, List.set_cons_succ])
          apply RG.wpT_done
          intro w4 hC hall
          obtain ⟨cs, N2, rfl, ⟨z, rfl, z1, z2⟩, hge, hblk⟩ := hall.1
          obtain ⟨i0, hi, hz0, hz1, hz2⟩ := info_parts infoI1
          refine wpList_append_mk (by rfl) _ _ 22 (by rfl) 3 i0 _ 1 8 Tryd.underlying22 hi hz0 hz1 hz2 rfl (by decide) (T.out.turn hC) (by rfl) _ _ 1 1 [.int .i64 z] (by rfl) (reads_blk hblk rfl) (intVals_one [z]) (by unfold maxLen; omega) (by omega) ?_
          intro v5 w5 M5 h5 _
          obtain ⟨A5, c5, rfl⟩ := h5.form
          have hq := h5.box (.head _); have f7 := hq.frozen 7; have d7 := hq.cell 7; (simp at d7); clear hq
          have T5 := Lib.hid (h5.set0 7 (.slice A5 (j + 1) c5))
          clear h5 hblk hC hall hi hz0 hz1 hz2 q7 T this
          go_wp2_with fail
          go_roundg (gk - 1)
          case measure => omega
          case rel =>
            refine ⟨j + 1, M5, .slice A5 (j + 1) c5, ws ++ [z], by omega, by go_num, by rw [List.length_append, hl]; rfl, fun x hx => ?_, by rw [intVals_append]; exact T5.out⟩
            rcases List.mem_append.1 hx with hx | hx
            · exact HWS.out x hx
            · rw [List.mem_singleton.1 hx]; omega
        · have hjk : j = 2 := by omega
          subst hjk
          obtain ⟨A, c, rfl⟩ := T.out.form
          obtain ⟨g, rfl, hcell⟩ := owns_cell (T.out.own _ (.head _)) (by decide)
          go_wp2_with fail
          letI : Grow := K.grow
          apply RG.wp_region_typed (C := fun w' => K.R wo w') (n := 103) (m := 10) (l1 := [_, _, _, _, _, _, _, _, _, _]) (l2 := [_])
          · rfl
          · rfl
          · kernel_rfl
          · rfl
          · kernel_rfl
          · exact K.drew wo
          · exact fun u u' h hb => h.trans hb
          iterate 5 ((apply RG.wpT_exact; · (intro w' hC hf; unfold RG.Gives; have q := (T.out.turn hC).box (.head _); have q7 := q.cell 7; (simp at q7); clear q; clear hf hC; go_wp2_with (fail); apply RG.postT_val rfl (Grow.refl _); simp only [RG.valAt, Array.getD_eq_getD_getElem?, List.getElem?_toArray, List.getElem?_cons_succ, List.getElem?_cons_zero, Option.getD_some]; exact rfl)); (try simp only [Act.put, List.setIfInBounds_toArray, List.set_cons_zero, List.set_cons_succ]))
          apply RG.wpT_typed (T := fun v _ => ∃ z : Nat, v = .int .i64 z ∧ z < 2) (fun v w w' h _ => h)
          · intro w' hC hf; unfold RG.Gives; clear hf
            go_wp2_with fail
            go_at_call 32
            refine ((T.out.turn hC).take 2 (by omega) (by omega)).mono ?_
            rintro e w3 ⟨v, rfl, v1, v2, hr⟩
            obtain ⟨z, rfl⟩ : ∃ z : Nat, v = z := ⟨v.toNat, by omega⟩
            go_wp2_with fail
            refine RG.postT_mk rfl hr ?_; simp only [RG.valAt, Array.getD_eq_getD_getElem?, List.getElem?_toArray, List.getElem?_cons_succ, List.getElem?_cons_zero, Option.getD_some]; exact ⟨z, rfl, by omega⟩
          intro v50; (try simp only [Act.put, List.setIfInBounds_toArray, List.set_cons_zero, List.set_cons_succ])
          (apply RG.wpT_exact; · (intro w' hC hf; unfold RG.Gives; clear hf hC; go_wp2_with (fail); apply RG.postT_val rfl (Grow.refl _); simp only [RG.valAt, Array.getD_eq_getD_getElem?, List.getElem?_toArray, List.getElem?_cons_succ, List.getElem?_cons_zero, Option.getD_some]; exact rfl)); (try simp only [Act.put, List.setIfInBounds_toArray, List.set_cons_zero, List.set_cons_succ])
          apply RG.wpT_typed (T := fun v _ => ∃ z : Int, v = .int .i64 z ∧ 0 ≤ z ∧ z < 3) (fun v w w' h _ => h)
          · intro w' hC hf; unfold RG.Gives; clear hf
            go_wp2_with fail
            go_at_call 32
            refine ((T.out.turn hC).take 3 (by omega) (by omega)).mono ?_
            rintro e w3 ⟨v, rfl, v1, v2, hr⟩
            go_wp2_with fail
            refine RG.postT_mk rfl hr ?_; simp only [RG.valAt, Array.getD_eq_getD_getElem?, List.getElem?_toArray, List.getElem?_cons_succ, List.getElem?_cons_zero, Option.getD_some]; exact ⟨_, rfl, v1, v2⟩
          intro v52; (try simp only [Act.put, List.setIfInBounds_toArray, List.set_cons_zero, List.set_cons_succ])
          apply RG.wpT_typed (T := fun v _ => ∃ z : Int, v = .int .i64 (1 + z) ∧ 0 ≤ z ∧ z < 3) (fun v w w' h _ => h)
          · intro w' hC hf; unfold RG.Gives; obtain ⟨z, rfl, z1, z2⟩ := hf.1 rfl; clear hf hC
            go_wp2_with fail
            refine RG.postT_mk rfl (Grow.refl _) ?_; simp only [RG.valAt, Array.getD_eq_getD_getElem?, List.getElem?_toArray, List.getElem?_cons_succ, List.getElem?_cons_zero, Option.getD_some]; exact ⟨_, rfl, z1, z2⟩
          intro v53; (try simp only [Act.put, List.setIfInBounds_toArray, List.set_cons_zero, List.set_cons_succ])
          apply RG.wpT_typed (T := fun v _ => ∃ z : Nat, v = .pointer (some ⟨g, z, none⟩) ∧ z < 2) (fun v w w' h _ => h)
          · intro w' hC hf; unfold RG.Gives; obtain ⟨z, rfl, z1⟩ := hf.2.2.1 rfl; clear hf hC
            go_wp2_with fail
            refine RG.postT_mk rfl (Grow.refl _) ?_; simp only [RG.valAt, Array.getD_eq_getD_getElem?, List.getElem?_toArray, List.getElem?_cons_succ, List.getElem?_cons_zero, Option.getD_some]; exact ⟨z, by first | rfl | simp [Addr.add], z1⟩
          intro v54; (try simp only [Act.put, List.setIfInBounds_toArray, List.set_cons_zero, List.set_cons_succ])
          apply RG.wpT_done
          intro w4 hC hall
          obtain ⟨z, rfl, z1⟩ := hall.1
          obtain ⟨x, rfl, x1, x2⟩ := hall.2.1
          have T4 := Lib.hid (T.out.turn hC)
          clear hall hC hcell T this q7
          obtain ⟨g', cur, hg', hblk, _⟩ := owns_blk (T4.out.own _ (.head _)) (by decide)
          obtain rfl : g = g' := by injection hg' with h; injection h
          have fz := hblk.frozen z
          obtain ⟨_, hgg, hcell⟩ := owns_cell (T4.out.own _ (.head _)) (by decide)
          obtain rfl : g = _ := by injection hgg with h; injection h
          have dz := hcell z (.int .i64 (ws[z]'(by omega))) (by unfold intVals; rw [List.getElem?_map, List.getElem?_eq_getElem (by omega)]; rfl)
          have T5 := Lib.hid (T4.out.setRow (.int .i64 (1 + x)) (k := z) (by omega))
          clear hg' hgg hcell hblk T4
          have hq := T5.out.box (.head _); have q0 := hq.cell 0; have q1 := hq.cell 1; have q2 := hq.cell 2; have q3 := hq.cell 3; have q4 := hq.cell 4; have q5 := hq.cell 5; have q6 := hq.cell 6; have q7 := hq.cell 7; (simp at q0 q1 q2 q3 q4 q5 q6 q7); clear hq
          go_wp2_with fail
          go_ret
          have T6 := T5.out
          rw [intVals_set] at T6
          exact plainP_tag T6 (by rw [List.length_set]; exact hl) (by decide) (by decide) (mem_set_le HWS.out z _ (by omega) (by omega)) (sum_set HWS.out z _ (by omega) (by omega)) (by simp [World.setCell]) rfl
    · replace H := Lib.hid ((H.out.new #[.string ⟨#[116, 97, 103]⟩, .string ⟨#[]⟩, .string ⟨#[]⟩, .int .i64 3, .int .i64 0, .int .i64 0, .slice (some ⟨N, 0, none⟩) 3 3, .slice none 0 0] 96 rfl).push 3 1)
      generalize w1.heap.size = F at H ⊢
      go_loopg [6] 3 (fun r i wr => ∃ (j : Nat) (M1 : List Nat) (v : Value) (ws : List Int), j + r = 3 ∧ i = .int .i64 j ∧ ws.length = j ∧ (∀ x ∈ ws, 0 ≤ x ∧ x ≤ 4) ∧ MkH K M1 ((F, 96, #[.string ⟨#[116, 97, 103]⟩, .string ⟨#[]⟩, .string ⟨#[]⟩, .int .i64 3, .int .i64 0, .int .i64 0, .slice (some ⟨N, 0, none⟩) 3 3, v]) :: bx) (⟨3, 1, v, j, intVals ws⟩ :: rs) ((fun M W => SlAt M W (some ⟨N, 0, none⟩) Sg.colors) :: L) wr)
      case atStart => exact ⟨0, _, _, [], by omega, rfl, rfl, (fun _ h => by cases h), H.out⟩
      case round =>
        obtain ⟨j, M1, v, ws, hj, rfl, hl, hb, hT⟩ := hrel
        have T := Lib.hid hT; have HWS := Lib.hid hb
        clear hT hb H
        have hq := T.out.box (.head _); have q7 := hq.cell 7; (simp at q7); clear hq
        obtain ⟨wo, rfl⟩ : ∃ wo : World, wo = wr := ⟨_, rfl⟩
        by_cases hlt : j < 3
        · have k1 : (j : Int) < 3 := by omega
          go_wp2_with fail
          letI : Grow := K.grow
          apply RG.wp_region_typed (C := fun w' => K.R wo w') (n := 103) (m := 5) (l1 := [_, _, _, _, _]) (l2 := [_, _, _])
          · rfl
          · rfl
          · kernel_rfl
          · rfl
          · kernel_rfl
          · exact K.drew wo
          · exact fun u u' h hb => h.trans hb
          iterate 3 ((apply RG.wpT_exact; · (intro w' hC hf; unfold RG.Gives; have q := (T.out.turn hC).box (.head _); have q7 := q.cell 7; (simp at q7); clear q; clear hf hC; go_wp2_with (fail); apply RG.postT_val rfl (Grow.refl _); simp only [RG.valAt, Array.getD_eq_getD_getElem?, List.getElem?_toArray, List.getElem?_cons_succ, List.getElem?_cons_zero, Option.getD_some]; exact rfl)); (try simp only [Act.put, List.setIfInBounds_toArray, List.set_cons_zero, List.set_cons_succ]))
          apply RG.wpT_typed (T := fun v _ => ∃ z : Int, v = .int .i64 z ∧ 0 ≤ z ∧ z < 5) (fun v w w' h _ => h)
          · intro w' hC hf; unfold RG.Gives; clear hf
            go_wp2_with fail
            go_at_call 32
            refine ((T.out.turn hC).take 5 (by omega) (by omega)).mono ?_
            rintro e w3 ⟨v, rfl, v1, v2, hr⟩
            go_wp2_with fail
            refine RG.postT_mk rfl hr ?_; simp only [RG.valAt, Array.getD_eq_getD_getElem?, List.getElem?_toArray, List.getElem?_cons_succ, List.getElem?_cons_zero, Option.getD_some]; exact ⟨_, rfl, v1, v2⟩
          intro v41; (try simp only [Act.put, List.setIfInBounds_toArray, List.set_cons_zero, List.set_cons_succ])
          apply RG.wpT_typed (litT_kept K wo.heap.size 1 3 (fun cs => ∃ z : Int, cs = #[.int .i64 z] ∧ 0 ≤ z ∧ z < 5) T.out.gmLt)
          · intro w' hC hf; unfold RG.Gives; obtain ⟨z, rfl, z1, z2⟩ := hf.1 rfl; clear hf
            have hs := Lib.hid (K.size hC)
            clear hC
            go_wp2_with fail
            refine RG.postT_mk rfl (K.grown (by go_grown)) ?_; simp only [RG.valAt, Array.getD_eq_getD_getElem?, List.getElem?_toArray, List.getElem?_cons_succ, List.getElem?_cons_zero, Option.getD_some]
            exact ⟨_, _, rfl, ⟨z, rfl, z1, z2⟩, hs.out, Blk.new _ _ _⟩
          intro v42; (try simp only [Act.put, List.setIfInBounds_toArray, List.set_cons_zero, List.set_cons_succ])
          apply RG.wpT_done
          intro w4 hC hall
          obtain ⟨cs, N2, rfl, ⟨z, rfl, z1, z2⟩, hge, hblk⟩ := hall.1
          obtain ⟨i0, hi, hz0, hz1, hz2⟩ := info_parts infoI1
          refine wpList_append_mk (by rfl) _ _ 22 (by rfl) 3 i0 _ 1 8 Tryd.underlying22 hi hz0 hz1 hz2 rfl (by decide) (T.out.turn hC) (by rfl) _ _ 1 1 [.int .i64 z] (by rfl) (reads_blk hblk rfl) (intVals_one [z]) (by unfold maxLen; omega) (by omega) ?_
          intro v5 w5 M5 h5 _
          obtain ⟨A5, c5, rfl⟩ := h5.form
          have hq := h5.box (.head _); have f7 := hq.frozen 7; have d7 := hq.cell 7; (simp at d7); clear hq
          have T5 := Lib.hid (h5.set0 7 (.slice A5 (j + 1) c5))
          clear h5 hblk hC hall hi hz0 hz1 hz2 q7 T this
          go_wp2_with fail
          go_roundg (gk - 1)
          case measure => omega
          case rel =>
            refine ⟨j + 1, M5, .slice A5 (j + 1) c5, ws ++ [z], by omega, by go_num, by rw [List.length_append, hl]; rfl, fun x hx => ?_, by rw [intVals_append]; exact T5.out⟩
            rcases List.mem_append.1 hx with hx | hx
            · exact HWS.out x hx
            · rw [List.mem_singleton.1 hx]; omega
        · have hjk : j = 3 := by omega
          subst hjk
          obtain ⟨A, c, rfl⟩ := T.out.form
          obtain ⟨g, rfl, hcell⟩ := owns_cell (T.out.own _ (.head _)) (by decide)
          go_wp2_with fail
          letI : Grow := K.grow
          apply RG.wp_region_typed (C := fun w' => K.R wo w') (n := 103) (m := 10) (l1 := [_, _, _, _, _, _, _, _, _, _]) (l2 := [_])
          · rfl
          · rfl
          · kernel_rfl
          · rfl
          · kernel_rfl
          · exact K.drew wo
          · exact fun u u' h hb => h.trans hb
          iterate 5 ((apply RG.wpT_exact; · (intro w' hC hf; unfold RG.Gives; have q := (T.out.turn hC).box (.head _); have q7 := q.cell 7; (simp at q7); clear q; clear hf hC; go_wp2_with (fail); apply RG.postT_val rfl (Grow.refl _); simp only [RG.valAt, Array.getD_eq_getD_getElem?, List.getElem?_toArray, List.getElem?_cons_succ, List.getElem?_cons_zero, Option.getD_some]; exact rfl)); (try simp only [Act.put, List.setIfInBounds_toArray, List.set_cons_zero, List.set_cons_succ]))
          apply RG.wpT_typed (T := fun v _ => ∃ z : Nat, v = .int .i64 z ∧ z < 3) (fun v w w' h _ => h)
          · intro w' hC hf; unfold RG.Gives; clear hf
            go_wp2_with fail
            go_at_call 32
            refine ((T.out.turn hC).take 3 (by omega) (by omega)).mono ?_
            rintro e w3 ⟨v, rfl, v1, v2, hr⟩
            obtain ⟨z, rfl⟩ : ∃ z : Nat, v = z := ⟨v.toNat, by omega⟩
            go_wp2_with fail
            refine RG.postT_mk rfl hr ?_; simp only [RG.valAt, Array.getD_eq_getD_getElem?, List.getElem?_toArray, List.getElem?_cons_succ, List.getElem?_cons_zero, Option.getD_some]; exact ⟨z, rfl, by omega⟩
          intro v50; (try simp only [Act.put, List.setIfInBounds_toArray, List.set_cons_zero, List.set_cons_succ])
          (apply RG.wpT_exact; · (intro w' hC hf; unfold RG.Gives; clear hf hC; go_wp2_with (fail); apply RG.postT_val rfl (Grow.refl _); simp only [RG.valAt, Array.getD_eq_getD_getElem?, List.getElem?_toArray, List.getElem?_cons_succ, List.getElem?_cons_zero, Option.getD_some]; exact rfl)); (try simp only [Act.put, List.setIfInBounds_toArray, List.set_cons_zero, List.set_cons_succ])
          apply RG.wpT_typed (T := fun v _ => ∃ z : Int, v = .int .i64 z ∧ 0 ≤ z ∧ z < 3) (fun v w w' h _ => h)
          · intro w' hC hf; unfold RG.Gives; clear hf
            go_wp2_with fail
            go_at_call 32
            refine ((T.out.turn hC).take 3 (by omega) (by omega)).mono ?_
            rintro e w3 ⟨v, rfl, v1, v2, hr⟩
            go_wp2_with fail
            refine RG.postT_mk rfl hr ?_; simp only [RG.valAt, Array.getD_eq_getD_getElem?, List.getElem?_toArray, List.getElem?_cons_succ, List.getElem?_cons_zero, Option.getD_some]; exact ⟨_, rfl, v1, v2⟩
          intro v52; (try simp only [Act.put, List.setIfInBounds_toArray, List.set_cons_zero, List.set_cons_succ])
          apply RG.wpT_typed (T := fun v _ => ∃ z : Int, v = .int .i64 (1 + z) ∧ 0 ≤ z ∧ z < 3) (fun v w w' h _ => h)
          · intro w' hC hf; unfold RG.Gives; obtain ⟨z, rfl, z1, z2⟩ := hf.1 rfl; clear hf hC
            go_wp2_with fail
            refine RG.postT_mk rfl (Grow.refl _) ?_; simp only [RG.valAt, Array.getD_eq_getD_getElem?, List.getElem?_toArray, List.getElem?_cons_succ, List.getElem?_cons_zero, Option.getD_some]; exact ⟨_, rfl, z1, z2⟩
          intro v53; (try simp only [Act.put, List.setIfInBounds_toArray, List.set_cons_zero, List.set_cons_succ])
          apply RG.wpT_typed (T := fun v _ => ∃ z : Nat, v = .pointer (some ⟨g, z, none⟩) ∧ z < 3) (fun v w w' h _ => h)
          · intro w' hC hf; unfold RG.Gives; obtain ⟨z, rfl, z1⟩ := hf.2.2.1 rfl; clear hf hC
            go_wp2_with fail
            refine RG.postT_mk rfl (Grow.refl _) ?_; simp only [RG.valAt, Array.getD_eq_getD_getElem?, List.getElem?_toArray, List.getElem?_cons_succ, List.getElem?_cons_zero, Option.getD_some]; exact ⟨z, by first | rfl | simp [Addr.add], z1⟩
          intro v54; (try simp only [Act.put, List.setIfInBounds_toArray, List.set_cons_zero, List.set_cons_succ])
          apply RG.wpT_done
          intro w4 hC hall
          obtain ⟨z, rfl, z1⟩ := hall.1
          obtain ⟨x, rfl, x1, x2⟩ := hall.2.1
          have T4 := Lib.hid (T.out.turn hC)
          clear hall hC hcell T this q7
          obtain ⟨g', cur, hg', hblk, _⟩ := owns_blk (T4.out.own _ (.head _)) (by decide)
          obtain rfl : g = g' := by injection hg' with h; injection h
          have fz := hblk.frozen z
          obtain ⟨_, hgg, hcell⟩ := owns_cell (T4.out.own _ (.head _)) (by decide)
          obtain rfl : g = _ := by injection hgg with h; injection h
          have dz := hcell z (.int .i64 (ws[z]'(by omega))) (by unfold intVals; rw [List.getElem?_map, List.getElem?_eq_getElem (by omega)]; rfl)
          have T5 := Lib.hid (T4.out.setRow (.int .i64 (1 + x)) (k := z) (by omega))
          clear hg' hgg hcell hblk T4
          have hq := T5.out.box (.head _); have q0 := hq.cell 0; have q1 := hq.cell 1; have q2 := hq.cell 2; have q3 := hq.cell 3; have q4 := hq.cell 4; have q5 := hq.cell 5; have q6 := hq.cell 6; have q7 := hq.cell 7; (simp at q0 q1 q2 q3 q4 q5 q6 q7); clear hq
          go_wp2_with fail
          go_ret
          have T6 := T5.out
          rw [intVals_set] at T6
          exact plainP_tag T6 (by rw [List.length_set]; exact hl) (by decide) (by decide) (mem_set_le HWS.out z _ (by omega) (by omega)) (sum_set HWS.out z _ (by omega) (by omega)) (by simp [World.setCell]) rfl
  · go_wp2_with fail
    go_at_call 32
    refine (H.out.take _ (by omega) (by omega)).mono ?_
    rintro e w1 ⟨a, rfl, a1, a2, hr⟩
    replace H := Lib.hid (H.out.turn hr); clear hr
    go_wp2_with fail
    have T := Lib.hid (H.out.new #[.string ⟨#[98, 111, 114, 110]⟩, .string ⟨#[]⟩, .string ⟨#[]⟩, .int .i64 4, .int .i64 (a - 200), .int .i64 0, .slice none 0 0, .slice none 0 0] 96 rfl)
    generalize hW1 : (w1.alloc _) = W1 at T ⊢
    have hN : w1.heap.size + 1 = W1.heap.size := by rw [← hW1]; simp
    generalize w1.heap.size = N at T hN ⊢
    letI : Grow := K.grow
    apply RG.wp_region_typed (C := fun w' => K.R W1 w') (n := 103) (m := 6) (l1 := [_, _, _, _, _, _]) (l2 := [_])
    · rfl
    · rfl
    · kernel_rfl
    · rfl
    · kernel_rfl
    · exact K.drew W1
    · exact fun u u' h hb => h.trans hb
    iterate 3 ((apply RG.wpT_exact; · (intro w' hC hf; unfold RG.Gives; have q := (T.out.turn hC).box (.head _); have q4 := q.cell 4; (simp at q4); clear q; clear hf hC; go_wp2_with (fail); apply RG.postT_val rfl (Grow.refl _); simp only [RG.valAt, Array.getD_eq_getD_getElem?, List.getElem?_toArray, List.getElem?_cons_succ, List.getElem?_cons_zero, Option.getD_some]; exact rfl)); (try simp only [Act.put, List.setIfInBounds_toArray, List.set_cons_zero, List.set_cons_succ]))
    apply RG.wpT_typed (T := fun v _ => ∃ z : Int, v = .int .i64 z ∧ 0 ≤ z ∧ z < 60) (fun v w w' h _ => h)
    · intro w' hC hf; unfold RG.Gives; clear hf
      go_wp2_with fail
      go_at_call 32
      refine ((T.out.turn hC).take 60 (by omega) (by omega)).mono ?_
      rintro e w3 ⟨v, rfl, v1, v2, hr⟩
      go_wp2_with fail
      refine RG.postT_mk rfl hr ?_; simp only [RG.valAt, Array.getD_eq_getD_getElem?, List.getElem?_toArray, List.getElem?_cons_succ, List.getElem?_cons_zero, Option.getD_some]; exact ⟨_, rfl, v1, v2⟩
    intro v66; (try simp only [Act.put, List.setIfInBounds_toArray, List.set_cons_zero, List.set_cons_succ])
    apply RG.wpT_typed (T := fun v _ => ∃ z : Int, v = .int .i64 (a - 200 + z) ∧ 0 ≤ z ∧ z < 60) (fun v w w' h _ => h)
    · intro w' hC hf; unfold RG.Gives; obtain ⟨z, rfl, z1, z2⟩ := hf.1 rfl; clear hf hC
      go_wp2_with fail
      refine RG.postT_mk rfl (Grow.refl _) ?_; simp only [RG.valAt, Array.getD_eq_getD_getElem?, List.getElem?_toArray, List.getElem?_cons_succ, List.getElem?_cons_zero, Option.getD_some]; exact ⟨_, rfl, z1, z2⟩
    intro v67; (try simp only [Act.put, List.setIfInBounds_toArray, List.set_cons_zero, List.set_cons_succ])
    (apply RG.wpT_exact; · (intro w' hC hf; unfold RG.Gives; clear hf hC; go_wp2_with (fail); apply RG.postT_val rfl (Grow.refl _); simp only [RG.valAt, Array.getD_eq_getD_getElem?, List.getElem?_toArray, List.getElem?_cons_succ, List.getElem?_cons_zero, Option.getD_some]; exact rfl)); (try simp only [Act.put, List.setIfInBounds_toArray, List.set_cons_zero, List.set_cons_succ])
    apply RG.wpT_done
    intro w4 hC hall
    obtain ⟨b, rfl, b1, b2⟩ := hall.1
    replace T := Lib.hid (T.out.turn hC)
    clear hC hall
    have q := T.out.box (.head _); have f5 := q.frozen 5; have c5 := q.cell 5; (simp at c5); clear q
    clear hN hW1
    clear W1
    clear this
    go_wp2_with fail
    clear f5 c5
    replace T := Lib.hid (T.out.set0 5 (.int .i64 (a - 200 + b)))
    generalize hW2 : (w4.setCell _ _) = W2 at T ⊢
    clear hW2 w4 H w1
    letI : Grow := K.grow
    apply RG.wp_region_typed (C := fun w' => K.R W2 w') (n := 103) (m := 8) (l1 := [_, _, _, _, _, _, _, _]) (l2 := [_])
    · rfl
    · rfl
    · kernel_rfl
    · rfl
    · kernel_rfl
    · exact K.drew W2
    · exact fun u u' h hb => h.trans hb
    iterate 2 ((apply RG.wpT_exact; · (intro w' hC hf; unfold RG.Gives; have q := (T.out.turn hC).box (.head _); have q0 := q.cell 0; have q1 := q.cell 1; have q2 := q.cell 2; have q3 := q.cell 3; have q4 := q.cell 4; have q5 := q.cell 5; have q6 := q.cell 6; have q7 := q.cell 7; (simp at q0 q1 q2 q3 q4 q5 q6 q7); clear q; clear hf hC; go_wp2_with (fail); apply RG.postT_val rfl (Grow.refl _); simp only [RG.valAt, Array.getD_eq_getD_getElem?, List.getElem?_toArray, List.getElem?_cons_succ, List.getElem?_cons_zero, Option.getD_some]; exact rfl)); (try simp only [Act.put, List.setIfInBounds_toArray, List.set_cons_zero, List.set_cons_succ]))
    apply RG.wpT_typed (T := fun v _ => ∃ z : Int, v = .int .i64 z ∧ 0 ≤ z ∧ z < 3) (fun v w w' h _ => h)
    · intro w' hC hf; unfold RG.Gives; clear hf
      go_wp2_with fail
      go_at_call 32
      refine ((T.out.turn hC).take 3 (by omega) (by omega)).mono ?_
      rintro e w3 ⟨v, rfl, v1, v2, hr⟩
      go_wp2_with fail
      refine RG.postT_mk rfl hr ?_; simp only [RG.valAt, Array.getD_eq_getD_getElem?, List.getElem?_toArray, List.getElem?_cons_succ, List.getElem?_cons_zero, Option.getD_some]; exact ⟨_, rfl, v1, v2⟩
    intro v71; (try simp only [Act.put, List.setIfInBounds_toArray, List.set_cons_zero, List.set_cons_succ])
    (apply RG.wpT_exact; · (intro w' hC hf; unfold RG.Gives; clear hf hC; go_wp2_with (fail); apply RG.postT_val rfl (Grow.refl _); simp only [RG.valAt, Array.getD_eq_getD_getElem?, List.getElem?_toArray, List.getElem?_cons_succ, List.getElem?_cons_zero, Option.getD_some]; exact rfl)); (try simp only [Act.put, List.setIfInBounds_toArray, List.set_cons_zero, List.set_cons_succ])
    apply RG.wpT_typed (T := fun v _ => ∃ z : Int, v = .int .i64 z ∧ 0 ≤ z ∧ z < 30) (fun v w w' h _ => h)
    · intro w' hC hf; unfold RG.Gives; clear hf
      go_wp2_with fail
      go_at_call 32
      refine ((T.out.turn hC).take 30 (by omega) (by omega)).mono ?_
      rintro e w3 ⟨v, rfl, v1, v2, hr⟩
      go_wp2_with fail
      refine RG.postT_mk rfl hr ?_; simp only [RG.valAt, Array.getD_eq_getD_getElem?, List.getElem?_toArray, List.getElem?_cons_succ, List.getElem?_cons_zero, Option.getD_some]; exact ⟨_, rfl, v1, v2⟩
    intro v73; (try simp only [Act.put, List.setIfInBounds_toArray, List.set_cons_zero, List.set_cons_succ])
    apply RG.wpT_typed (T := fun v _ => ∃ z : Int, v = .int .i64 (3 + z) ∧ 0 ≤ z ∧ z < 30) (fun v w w' h _ => h)
    · intro w' hC hf; unfold RG.Gives; obtain ⟨z, rfl, z1, z2⟩ := hf.1 rfl; clear hf hC
      go_wp2_with fail
      refine RG.postT_mk rfl (Grow.refl _) ?_; simp only [RG.valAt, Array.getD_eq_getD_getElem?, List.getElem?_toArray, List.getElem?_cons_succ, List.getElem?_cons_zero, Option.getD_some]; exact ⟨_, rfl, z1, z2⟩
    intro v74; (try simp only [Act.put, List.setIfInBounds_toArray, List.set_cons_zero, List.set_cons_succ])
    apply RG.wpT_typed (T := fun v _ => ∃ c d : Int, v = .agg #[.string ⟨#[108, 101, 102, 116]⟩, .string ⟨#[98, 111, 114, 110]⟩, .string ⟨#[]⟩, .int .i64 4, .int .i64 c, .int .i64 (3 + d), .slice none 0 0, .slice none 0 0] ∧ 0 ≤ c ∧ c < 3 ∧ 0 ≤ d ∧ d < 30) (fun v w w' h _ => h)
    · intro w' hC hf; unfold RG.Gives; obtain ⟨d, rfl, d1, d2⟩ := hf.1 rfl; obtain ⟨c, rfl, c1, c2⟩ := hf.2.2.1 rfl; clear hf hC
      go_wp2_with fail
      refine RG.postT_mk rfl (Grow.refl _) ?_; simp only [RG.valAt, Array.getD_eq_getD_getElem?, List.getElem?_toArray, List.getElem?_cons_succ, List.getElem?_cons_zero, Option.getD_some]; exact ⟨_, _, rfl, c1, c2, d1, d2⟩
    intro v75; (try simp only [Act.put, List.setIfInBounds_toArray, List.set_cons_zero, List.set_cons_succ])
    apply RG.wpT_typed (litT_kept K W2.heap.size 2 96 (fun cs => ∃ c d : Int, cs = #[.string ⟨#[98, 111, 114, 110]⟩, .string ⟨#[]⟩, .string ⟨#[]⟩, .int .i64 4, .int .i64 (a - 200), .int .i64 (a - 200 + b), .slice none 0 0, .slice none 0 0, .string ⟨#[108, 101, 102, 116]⟩, .string ⟨#[98, 111, 114, 110]⟩, .string ⟨#[]⟩, .int .i64 4, .int .i64 c, .int .i64 (3 + d), .slice none 0 0, .slice none 0 0] ∧ 0 ≤ c ∧ c < 3 ∧ 0 ≤ d ∧ d < 30) T.out.gmLt)
    · intro w' hC hf; unfold RG.Gives; obtain ⟨c, d, rfl, c1, c2, d1, d2⟩ := hf.1 rfl; clear hf
      have hs := Lib.hid (K.size hC)
      clear hC
      go_wp2_with fail
      refine RG.postT_mk rfl (K.grown (by go_grown)) ?_; simp only [RG.valAt, Array.getD_eq_getD_getElem?, List.getElem?_toArray, List.getElem?_cons_succ, List.getElem?_cons_zero, Option.getD_some]
      exact ⟨_, _, rfl, ⟨c, d, rfl, c1, c2, d1, d2⟩, hs.out, Blk.new _ _ _⟩
    intro v76; (try simp only [Act.put, List.setIfInBounds_toArray, List.set_cons_zero, List.set_cons_succ])
    apply RG.wpT_done
    intro w5 hC hall
    obtain ⟨cs, N2, rfl, ⟨c, d, rfl, c1, c2, d1, d2⟩, hge, hblk⟩ := hall.1
    have hnm : N2 ∉ N :: M := fun hm => by have := T.out.mb _ hm; omega
    replace T := Lib.hid (T.out.turn hC)
    have hp := Sg.Plain.born (a - 200) b c d (by omega) (by omega) (by omega) (by omega) (by omega) (by omega) (by omega) (by omega)
    have T2 := Lib.hid (((T.out.lit (l := [((⟨#[98, 111, 114, 110]⟩, ⟨#[]⟩, ⟨#[]⟩, 4, a - 200, a - 200 + b, [], []) : Fld), (⟨#[108, 101, 102, 116]⟩, ⟨#[98, 111, 114, 110]⟩, ⟨#[]⟩, 4, c, 3 + d, [], [])]) hblk hnm ((Flat.single (fld_mk (by decide) (by decide) (by decide) ⟨by omega, by omega⟩ ⟨by omega, by omega⟩ ⟨by omega, by omega⟩ rep_nil rep_nil)).append (Flat.single (fld_mk (by decide) (by decide) (by decide) ⟨by omega, by omega⟩ ⟨by omega, by omega⟩ ⟨by omega, by omega⟩ rep_nil rep_nil)))).boxes (.cons _ (List.Sublist.refl _))))
    clear hall hblk hC
    go_wp2_with fail
    go_ret
    exact plainP_of T2.out hp rfl (by decide) (by decide)
  · go_wp2_with fail
    go_at_call 32
    refine (H.out.take _ (by omega) (by omega)).mono ?_
    rintro e w1 ⟨a, rfl, a1, a2, hr⟩
    replace H := Lib.hid (H.out.turn hr); clear hr
    go_wp2_with fail
    go_at_call 32
    refine (H.out.take _ (by omega) (by omega)).mono ?_
    rintro e w1 ⟨b, rfl, b1, b2, hr⟩
    replace H := Lib.hid (H.out.turn hr); clear hr
    go_wp2_with fail
    go_ret
    have hp := Sg.Plain.state a b (by omega) (by omega) (by omega) (by omega)
    refine plainP_lit H.out rfl rfl hp (Flat.single (fld_mk ?_ ?_ ?_ ⟨?_, ?_⟩ ⟨?_, ?_⟩ ⟨?_, ?_⟩ rep_nil rep_nil)) <;> first | omega | decide
  · go_wp2_with fail
    go_at_call 32
    refine (H.out.take _ (by omega) (by omega)).mono ?_
    rintro e w1 ⟨a, rfl, a1, a2, hr⟩
    replace H := Lib.hid (H.out.turn hr); clear hr
    go_wp2_with fail
    go_at_call 32
    refine (H.out.take _ (by omega) (by omega)).mono ?_
    rintro e w1 ⟨b, rfl, b1, b2, hr⟩
    replace H := Lib.hid (H.out.turn hr); clear hr
    go_wp2_with fail
    go_at_call 32
    refine (H.out.take _ (by omega) (by omega)).mono ?_
    rintro e w1 ⟨c, rfl, c1, c2, hr⟩
    replace H := Lib.hid (H.out.turn hr); clear hr
    go_wp2_with fail
    go_at_call 32
    refine (H.out.take _ (by omega) (by omega)).mono ?_
    rintro e w1 ⟨d, rfl, d1, d2, hr⟩
    replace H := Lib.hid (H.out.turn hr); clear hr
    go_wp2_with fail
    go_ret
    have hp := Sg.Plain.low a b c d (by omega) (by omega) (by omega) (by omega) (by omega) (by omega) (by omega) (by omega)
    refine plainP_lit H.out rfl rfl hp ((Flat.single (fld_mk ?_ ?_ ?_ ⟨?_, ?_⟩ ⟨?_, ?_⟩ ⟨?_, ?_⟩ rep_nil rep_nil)).append (Flat.single (fld_mk ?_ ?_ ?_ ⟨?_, ?_⟩ ⟨?_, ?_⟩ ⟨?_, ?_⟩ rep_nil rep_nil))) <;> first | omega | decide
  · go_wp2_with fail
    go_ret
    exact plainP_none H.out
end Go.Proofs.YtdpcdocaahjeoaaDoor
