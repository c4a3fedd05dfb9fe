/- Parts of the proof, joined: SxLaw, SxL0, M1, M2, M4, M5, Shelf, Bld, W22, SxL1, M8, SxW1, SxW2, SxW3, SxW4, SxW5, SxW6, SxW7, SxW8. -/
import Derived.Test.YtmplaikgbeeikaaGreatDoorP1
import Derived.Deep.MidRow
import Derived.Lib.EndianMore
import Derived.Deep.Cut
import Derived.Outline
import Derived.Deep.LoopGhost
import Derived.Laws.StructEq
import Derived.Shelf.Strings.Builder1
import Derived.Shelf.Strings.Trim
import Derived.Shelf.Strings.SlTrimAscii
import Derived.Shelf.Small.Utf8
import Derived.Shelf.Small.Strs
import Derived.Shelf.Strings.BuilderF
import Derived.Shelf.Strings.BuilderK
import Derived.Shelf.Strconv.Atoi
import Derived.Shelf.Strconv.Itoa0
import Derived.Shelf.Strconv.Itoa1
import Derived.Shelf.LaysM
import Derived.Shelf.Strconv.Itoa2
import Derived.Shelf.Strconv.Itoa3
import Derived.Shelf.Strconv.AtoiErrFast
import Derived.Shelf.Strconv.ParseIntEmpty
import Derived.Shelf.Strconv.AtoiFail
import Derived.Shelf.Strconv.Clone
import Derived.Shelf.Strconv.SyntaxError
import Derived.Shelf.LaysC
import Derived.Shelf.Strconv.ToError
import Derived.Shelf.Strconv.Lower
import Derived.Shelf.Strconv.ParseUint10
import Derived.Shelf.Strconv.ParseUint10Empty
import Derived.Shelf.Strconv.ParseUint10Any
import Derived.Shelf.Strconv.ParseInt10
import Derived.Shelf.Strconv.AtoiLong
import Derived.Shelf.Strconv.AtoiInnerAll
import Derived.Shelf.Strconv.RangeError
import Derived.Shelf.Strconv.ToErrorRange
import Derived.Shelf.Strconv.AtoiAll
import Derived.Shelf.Strconv.ErrVarAll
import Derived.Shelf.Strconv.ParseUintEmpty
import Derived.Shelf.Strconv.ParseUint10b64
import Derived.Shelf.Strconv.ParseUint10b32
import Derived.Shelf.Strconv.ParseUint10b16
import Derived.Shelf.Strconv.ParseUint10b8
import Derived.Shelf.Strconv.ParseUint10At
import Derived.Shelf.Strings.Search1
import Derived.Shelf.Strings.Prefix
import Derived.Shelf.Unicode.Decode
import Derived.Shelf.Strings.Runes
import Derived.Shelf.Strings.AsciiSet
import Derived.Shelf.Unicode.DecodeSlow
import Derived.Shelf.Unicode.DecodeAny
import Derived.Shelf.Unicode.DecodeLast
import Derived.Shelf.Strings.BuilderCap
import Derived.Shelf.Slices.Turned
import Derived.Shelf.Slices.Equal
import Derived.Shelf.Slices.Empties2
import Derived.Test.YtmplaikgbeeikaaGreatDoorProg
import Derived.Lib.Builder
import Derived.Lib.AppendStr
import Derived.Lib.UnsafeStr
import Derived.Laws.Externs
import Derived.WalkMore
import Derived.Lib.QuietBelow
import Derived.Lib.Strings
import Derived.Shelf.GgClosure.StringsIndexFunc
import Derived.Laws.RangeString
import Derived.Lib.AtoiAll
import Derived.Laws.IdiomStrings
import Derived.Deep.CutBlock
set_option linter.unusedVariables false
set_option linter.unusedSimpArgs false
set_option linter.unusedSectionVars false
namespace Go.Proofs.YtmplaikgbeeikaaGreatDoor
open Go Go.RowKit
namespace Sx
theorem numB_num (n : Int) (h : n.natAbs < 1000000000) : numB (num n) = true ∧ numV (num n) = n := by
  unfold num Lib.itoa
  split
  · rename_i h0
    have e1 : neg (45 :: Lib.decDigits n.natAbs) = true := rfl
    have l1 := Dc.decDigits_lt 9 n.natAbs (by omega) (by omega)
    have l2 : 0 < (Lib.decDigits n.natAbs).length := List.length_pos_iff.2 (Dc.decDigits_ne _)
    unfold numB numV digs
    rw [e1, if_pos rfl, if_pos rfl, List.tail_cons, Dc.decDigits_all, Dc.decV_digits]
    simp only [decide_eq_true (show 1 ≤ _ from l2), decide_eq_true l1, Bool.and_self, true_and]
    omega
  · rename_i h0
    have e1 : neg (Lib.decDigits n.toNat) = false := Dc.digits_neg _
    have l1 := Dc.decDigits_lt 9 n.toNat (by omega) (by omega)
    have l2 : 0 < (Lib.decDigits n.toNat).length := List.length_pos_iff.2 (Dc.decDigits_ne _)
    unfold numB numV digs
    rw [e1, if_neg (by simp), if_neg (by simp), Dc.decDigits_all, Dc.decV_digits]
    simp only [decide_eq_true (show 1 ≤ _ from l2), decide_eq_true l1, Bool.and_self, true_and]
    omega
/-- Words with what stands before each of them, and an end. -/
def body (ws : List (Txt × Txt)) (e : Txt) : Txt := ws.flatMap (fun p => p.1 ++ p.2) ++ e
def Lays (ws : List (Txt × Txt)) : Prop := ∀ p ∈ ws, p.1.all Vm.isBlank = true ∧ p.2.all Vm.isTok = true ∧ p.2 ≠ []
theorem blank_not (c : UInt8) (h : Vm.isBlank c = true) : Vm.isTok c = false := by
  simp only [Vm.isBlank, Bool.or_eq_true, beq_iff_eq] at h
  rcases h with rfl | rfl <;> decide
theorem body_head {ws : List (Txt × Txt)} {e : Txt} (h : Lays ws) (hs : ∀ p ∈ ws, p.1 ≠ []) (he : e.all Vm.isBlank = true) (c : UInt8) (l : Txt) (hc : body ws e = c :: l) : Vm.isTok c = false := by
  cases ws with
  | nil =>
    have hc : e = c :: l := hc
    rw [hc, List.all_cons, Bool.and_eq_true] at he
    exact blank_not c he.1
  | cons p ws =>
    have h1 := (h p (.head _)).1
    have h2 := hs p (.head _)
    cases hp : p.1 with
    | nil => exact absurd hp h2
    | cons d r =>
      have : body (p :: ws) e = d :: (r ++ p.2 ++ (ws.flatMap (fun p => p.1 ++ p.2) ++ e)) := by simp [body, hp]
      rw [this] at hc
      injection hc with hc _
      subst hc
      rw [hp, List.all_cons, Bool.and_eq_true] at h1
      exact blank_not d h1.1
theorem scan_body (s e : Txt) (he : e.all Vm.isBlank = true) : ∀ (ws : List (Txt × Txt)) (fuel i : Nat), Lays ws → (∀ p ∈ ws.tail, p.1 ≠ []) → s.drop i = body ws e → i ≤ s.length → s.length < i + fuel →
    (Vm.scan s fuel i).1.map (fun t => Vm.piece s t.1 t.2) = ws.map Prod.snd ∧ (Vm.scan s fuel i).2 = s.length
  | [], fuel, i, _, _, h, hi, hf => by
    obtain ⟨f, rfl⟩ : ∃ f, fuel = f + 1 := ⟨fuel - 1, by omega⟩
    have hb : s.drop i = e := by rw [h]; simp [body]
    have := Vm.tok_end hb he hi
    unfold Vm.tokAt at this
    injection this with t1 t2
    rw [Vm.scan_eq, if_pos t2, t1]
    exact ⟨rfl, rfl⟩
  | (b, w) :: ws, fuel, i, hl, hs, h, hi, hf => by
    obtain ⟨f, rfl⟩ : ∃ f, fuel = f + 1 := ⟨fuel - 1, by omega⟩
    obtain ⟨h1, h2, h3⟩ := hl _ (.head _)
    have hr : Lays ws := fun p hp => hl p (.tail _ hp)
    have hd : s.drop i = b ++ (w ++ body ws e) := by rw [h]; simp [body]
    obtain ⟨t1, t2⟩ := Vm.tok_step hd h1 h2 h3 (body_head hr hs he)
    unfold Vm.tokAt at t1
    injection t1 with t1 t3
    have hlen : i + b.length + w.length ≤ s.length := by
      have := congrArg List.length hd
      simp only [List.length_drop, List.length_append] at this
      omega
    have hw : 0 < w.length := List.length_pos_iff.2 h3
    rw [Vm.scan_eq, t3, if_neg h3, t1]
    obtain ⟨r1, r2⟩ := scan_body s e he ws f (i + b.length + w.length) hr (fun p hp => hs p (List.mem_of_mem_tail hp)) t2 hlen (by omega)
    refine ⟨?_, r2⟩
    rw [List.map_cons, r1]
    have hp := Vm.piece_word s (i + b.length)
    rw [t1] at t3
    rw [t3] at hp
    rw [hp]; rfl
/-- A line, its tokens laid. -/
def layLine (sep : Txt) : List Txt → List (Txt × Txt)
  | [] => []
  | t :: ts => (sep, t) :: ts.map fun u => ([32], u)
def layAll : Txt → List (List Txt) → List (Txt × Txt)
  | _, [] => []
  | sep, l :: ls => layLine sep l ++ layAll [10] ls
theorem lineT_lay (sep : Txt) : ∀ (t : Txt) (ts : List Txt), (layLine sep (t :: ts)).flatMap (fun p => p.1 ++ p.2) ++ [10] = sep ++ lineT (t :: ts)
  | t, [] => by simp [layLine, lineT]
  | t, u :: ts => by
    have ih := lineT_lay [32] u ts
    simp only [layLine, List.flatMap_cons, List.map_cons] at ih ⊢
    simp only [lineT]
    simp only [List.append_assoc] at ih ⊢
    rw [ih]
    simp
theorem lines_lay : ∀ (ls : List (List Txt)) (l : List Txt) (sep : Txt), l ≠ [] → (∀ m ∈ ls, m ≠ []) → body (layAll sep (l :: ls)) [10] = sep ++ (l :: ls).flatMap lineT
  | [], t :: ts, sep, _, _ => by
    have := lineT_lay sep t ts
    simp only [body, layAll, List.append_nil, List.flatMap_cons, List.flatMap_nil]
    exact this
  | m :: ls, t :: ts, sep, _, h => by
    have ih := lines_lay ls m [10] (h m (.head _)) (fun x hx => h x (.tail _ hx))
    have h1 := lineT_lay sep t ts
    unfold body at ih ⊢
    rw [layAll, List.flatMap_append, List.append_assoc, ih, List.flatMap_cons (xs := m :: ls), ← List.append_assoc sep, ← h1]
    simp
  | _, [], _, h, _ => absurd rfl h
theorem layAll_words : ∀ (ls : List (List Txt)) (sep : Txt), (layAll sep ls).map Prod.snd = ls.flatten
  | [], _ => rfl
  | [] :: ls, sep => by simp [layAll, layLine, layAll_words ls]
  | (t :: ts) :: ls, sep => by
    have : (List.map (fun u : Txt => (([32], u) : Txt × Txt)) ts).map Prod.snd = ts := by
      rw [List.map_map]; exact List.map_id' ts
    simp only [layAll, layLine, List.cons_append, List.map_cons, List.map_append, this, layAll_words ls, List.flatten_cons]
theorem layAll_mem : ∀ (ls : List (List Txt)) (sep : Txt), ∀ p ∈ layAll sep ls, (p.1 = sep ∨ p.1 = [10] ∨ p.1 = [32]) ∧ p.2 ∈ ls.flatten
  | [], _, p, hp => by cases hp
  | [] :: ls, sep, p, hp => by
    have := layAll_mem ls [10] p (by simpa [layAll, layLine] using hp)
    exact ⟨by rcases this.1 with h | h | h <;> simp [h], by simpa using this.2⟩
  | (t :: ts) :: ls, sep, p, hp => by
    simp only [layAll, layLine, List.cons_append, List.mem_cons, List.mem_append, List.mem_map] at hp
    rcases hp with rfl | ⟨u, hu, rfl⟩ | hp
    · exact ⟨.inl rfl, by simp⟩
    · exact ⟨.inr (.inr rfl), by simp [hu]⟩
    · have := layAll_mem ls [10] p hp
      refine ⟨by rcases this.1 with h | h | h <;> simp [h], ?_⟩
      rw [List.flatten_cons]
      exact List.mem_append_right _ this.2
theorem layAll_tail : ∀ (ls : List (List Txt)) (sep : Txt), ∀ p ∈ (layAll sep ls).tail, p.1 ≠ []
  | [], _, p, hp => by cases hp
  | [] :: ls, sep, p, hp => by
    exact layAll_tail ls [10] p (by simpa [layAll, layLine] using hp)
  | (t :: ts) :: ls, sep, p, hp => by
    simp only [layAll, layLine, List.cons_append, List.tail_cons, List.mem_append, List.mem_map] at hp
    rcases hp with ⟨u, hu, rfl⟩ | hp
    · simp
    · rcases (layAll_mem ls [10] p hp).1 with h | h | h <;> (rw [h]; simp)
/-- The tokens of lines. -/
theorem toks_lines (l : List Txt) (ls : List (List Txt)) (hl : l ≠ []) (hne : ∀ m ∈ ls, m ≠ []) (ht : ∀ t ∈ (l :: ls).flatten, t.all Vm.isTok = true ∧ t ≠ []) :
    (toks ((l :: ls).flatMap lineT)).map Prod.fst = (l :: ls).flatten ∧ stopAt ((l :: ls).flatMap lineT) = ((l :: ls).flatMap lineT).length := by
  have hb := lines_lay ls l [] hl hne
  rw [List.nil_append] at hb
  obtain ⟨h1, h2⟩ := scan_body ((l :: ls).flatMap lineT) [10] (by decide) (layAll [] (l :: ls)) (((l :: ls).flatMap lineT).length + 1) 0
    (fun p hp => by
      obtain ⟨k1, k2⟩ := layAll_mem _ _ p hp
      obtain ⟨t1, t2⟩ := ht p.2 k2
      exact ⟨by rcases k1 with h | h | h <;> (rw [h]; decide), t1, t2⟩)
    (layAll_tail _ _) (by rw [List.drop_zero, hb]) (by omega) (by omega)
  refine ⟨?_, h2⟩
  unfold toks
  rw [List.map_map, show (Prod.fst ∘ fun t : Nat × Nat => ((Vm.piece ((l :: ls).flatMap lineT) t.1 t.2, t.1) : Tok)) = (fun t => Vm.piece ((l :: ls).flatMap lineT) t.1 t.2) from rfl, h1, layAll_words]
end Sx
end Go.Proofs.YtmplaikgbeeikaaGreatDoor
namespace Go.Proofs.YtmplaikgbeeikaaGreatDoor
open Go Go.RowKit
namespace Sx
/-- A name or a number. -/
inductive Av where
  | n (z : Int)
  | s (b : ByteArray)
def Av.t : Av → Txt
  | .n z => num z
  | .s b => bs b
def Av.ok : Av → Prop
  | .n z => z.natAbs < 10000000000
  | .s b => b.size ≤ 100
/-- A line without its end. -/
def lineP (w : Txt) (l : List Av) : Txt := w ++ l.flatMap fun a => 32 :: a.t
theorem lineP_nil (w : Txt) : lineP w [] = w := by simp [lineP]
theorem lineP_snoc (w : Txt) (l : List Av) (a : Av) : lineP w l ++ [32] ++ a.t = lineP w (l ++ [a]) := by simp [lineP]
theorem lineT_cons (t : Txt) : ∀ l : List Txt, lineT (t :: l) = t ++ (l.flatMap fun u => 32 :: u) ++ [10]
  | [] => by simp [lineT]
  | u :: l => by
    have h := lineT_cons u l
    show t ++ 32 :: lineT (u :: l) = _
    rw [h]
    simp
theorem lineP_end (w : Txt) (l : List Av) : lineP w l ++ [10] = lineT (w :: l.map Av.t) := by
  rw [lineT_cons]
  unfold lineP
  rw [List.flatMap_map]
theorem Av.len {a : Av} (h : a.ok) : a.t.length ≤ 100 := by
  cases a with
  | n z => exact Nat.le_trans (Dc.itoa_len z h) (by decide)
  | s b => exact h
theorem lineP_le (w : Txt) : ∀ {l : List Av}, (∀ a ∈ l, a.ok) → (lineP w l).length ≤ w.length + 101 * l.length
  | [], _ => by simp [lineP]
  | a :: l, h => by
    have h1 := lineP_le w (l := l) fun x hx => h x (.tail _ hx)
    have h2 := Av.len (h a (.head _))
    unfold lineP at h1 ⊢
    simp only [List.flatMap_cons, List.length_append, List.length_cons] at h1 ⊢
    omega
end Sx
instance : Mem Sx.Av where
  sz := 1
  rep _ _ a vs := match a with
    | .n z => vs = [.iface 3 (.int .i64 z)] ∧ inI z
    | .s b => vs = [.iface 9 (.string b)] ∧ b.size ≤ 9223372036854775807
  len {_ _ a _} h := by cases a <;> (rw [h.1]; rfl)
  keep {_ _ _ a _} h _ := by cases a <;> exact h
  sub {_ _ _ a _} h _ := by cases a <;> exact h
  one {_ _ a _} h := by cases a <;> (rw [h.1]; intro u hu; rw [List.mem_singleton] at hu; subst hu; rfl)
end Go.Proofs.YtmplaikgbeeikaaGreatDoor
namespace Go.Proofs.YtmplaikgbeeikaaGreatDoor
open Go Go.RowKit
theorem cells4 {w : World} {g : Nat} {t : TypeId} {a b c d : Value} (h : Blk w g t #[a, b, c, d]) : w.cell? ⟨g, 0, none⟩ = some a ∧ w.cell? ⟨g, 1, none⟩ = some b ∧ w.cell? ⟨g, 2, none⟩ = some c ∧ w.cell? ⟨g, 3, none⟩ = some d := ⟨h.cell 0, h.cell 1, h.cell 2, h.cell 3⟩
end Go.Proofs.YtmplaikgbeeikaaGreatDoor
namespace Go.Proofs.YtmplaikgbeeikaaGreatDoor
open Go Go.RowKit
theorem addr_inj {b o b' o' : Nat} (h : (some ⟨b, o, none⟩ : Option Addr) = some ⟨b', o', none⟩) : b = b' ∧ o = o' := by
  injection h with h; injection h with h1 h2; exact ⟨h1, h2⟩
end Go.Proofs.YtmplaikgbeeikaaGreatDoor
namespace Go.Proofs.YtmplaikgbeeikaaGreatDoor
open Go Go.RowKit
theorem getD_in {α : Type} {l : List α} {k : Nat} {d : α} (h : k < l.length) : l.getD k d = l[k] := by rw [List.getD_eq_getElem?_getD, List.getElem?_eq_getElem h]; rfl
theorem cell_box1 (w : World) (t : TypeId) (u : Value) : (w.alloc (.cells #[u] t)).cell? ⟨w.heap.size, 0, none⟩ = some u := (Blk.new w t #[u]).cell 0
end Go.Proofs.YtmplaikgbeeikaaGreatDoor
namespace Go.Proofs.YtmplaikgbeeikaaGreatDoor
open Go Go.RowKit
theorem take_snoc' {α : Type} (l : List α) (k : Nat) (h : k < l.length) : l.take (k + 1) = l.take k ++ [l[k]] := List.take_succ_eq_append_getElem h
end Go.Proofs.YtmplaikgbeeikaaGreatDoor
namespace Go.Proofs.YtmplaikgbeeikaaGreatDoor
open Go Go.RowKit
theorem byte_at {G : List Nat} {w : World} {A : Option Addr} {l : List UInt8} (h : SlAt G w A l) (k : Nat) (hk : k < l.length) : ∃ b o, A = some ⟨b, o, none⟩ ∧ b ∉ G ∧ w.cell? ⟨b, o + k, none⟩ = some (.int .u8 l[k].toNat) := by
  obtain ⟨b, o, us, hA, hg, hr, hc⟩ := h.get k hk
  refine ⟨b, o, hA, hg, ?_⟩
  have := hc 0 _ (by rw [show us = [_] from hr]; rfl)
  rw [show k * Mem.sz UInt8 + 0 = k from Nat.mul_one k] at this
  exact this
set_option maxHeartbeats 400000 in
theorem around_any (n m : Int) (w : World) (h1 : -9223372036854775808 ≤ n) (h2 : n ≤ 9223372036854775807) :
    Calls Tryz.prog 17 #[.int .i64 n, .int .i64 m] w fun e w' => e = .returned (.int .i64 (around n m)) ∧ w = w' := by
  by_cases h0 : n < 0
  · by_cases hm : m < 1
    · go_enter Tryz.func17, Tryz.ntmps17
      go_wp2
      go_ret
      exact ⟨ret_int (around_lo (by omega)).symm, rfl⟩
    · go_enter Tryz.func17, Tryz.ntmps17
      go_wp2
      go_ret
      exact ⟨ret_int (around_neg (by omega) (by omega)).symm, rfl⟩
  · by_cases hm : m < 1
    · go_enter Tryz.func17, Tryz.ntmps17
      go_wp2
      go_ret
      exact ⟨ret_int (around_lo (by omega)).symm, rfl⟩
    · go_enter Tryz.func17, Tryz.ntmps17
      go_wp2
      go_ret
      exact ⟨ret_int (around_pos (by omega) (by omega)).symm, rfl⟩
end Go.Proofs.YtmplaikgbeeikaaGreatDoor
namespace Go.Proofs.YtmplaikgbeeikaaGreatDoor
open Go Go.RowKit
theorem infoU8 : (Tryz.prog.info? 5).map (fun i => (i.zero, i.size, i.bytes)) = some (some (.int .u8 0), 1, 1) := by kernel_rfl
theorem byte_one (b : UInt8) : ∀ u ∈ [Value.int .u8 b.toNat], u.oneCell' = true := by intro u hu; rw [List.mem_singleton] at hu; subst hu; rfl
end Go.Proofs.YtmplaikgbeeikaaGreatDoor
namespace Go.Proofs
open Go.Shelf
def Tryz.lays169_ren : Go.Shelf.Ren := ⟨fun | 169 => 107 | n => n, fun | 70 => 139 | 9 => 9 | 0 => 0 | 72 => 141 | 37 => 73 | 127 => 157 | 3 => 3 | 5 => 5 | n => n, fun | n => n⟩
theorem Tryz.lays169 : Go.Proofs.Lays.n169 Tryz.prog Tryz.lays169_ren := {
  mixed := by kernel_rfl
  f169 := Tryz.func107.trans (congrArg some (by kernel_rfl))
  t0 := Tryz.underlying0
  a0 := Tryz.isAgg0
  z0 := Tryz.sizeOf0
  v0 := Tryz.zeroValue0
  t3 := Tryz.underlying3
  a3 := Tryz.isAgg3
  z3 := Tryz.sizeOf3
  v3 := Tryz.zeroValue3
  t9 := Tryz.underlying9
  a9 := Tryz.isAgg9
  z9 := Tryz.sizeOf9
  v9 := Tryz.zeroValue9
  t37 := Tryz.underlying73
  a37 := Tryz.isAgg73
  z37 := Tryz.sizeOf73
  v37 := Tryz.zeroValue73
  t70 := Tryz.underlying139
  a70 := Tryz.isAgg139
  z70 := Tryz.sizeOf139
  v70 := Tryz.zeroValue139
  t72 := Tryz.underlying141
  a72 := Tryz.isAgg141
  z72 := Tryz.sizeOf141
  v72 := Tryz.zeroValue141
  t127 := Tryz.underlying157
  a127 := Tryz.isAgg157
  z127 := Tryz.sizeOf157
  v127 := Tryz.zeroValue157 }
theorem Tryz.Builder_Extra_169 : Builder.Extra Tryz.prog Tryz.lays169_ren := {
  sizeBuilder := by kernel_rfl
  liesBuilder := by kernel_rfl
  t5 := Tryz.underlying5
  a5 := Tryz.isAgg5
  z5 := Tryz.sizeOf5
  v5 := Tryz.zeroValue5
  infoByte := by kernel_rfl
  cellsByte := by kernel_rfl
  sizeByte := by kernel_rfl
  neB5 := by decide }
open Go.RowKit in
theorem Tryz.Builder_String_any (B b : Nat) (l : List UInt8) (w : World) (h : Lib.IsBuilder 141 5 B b (Lib.byteCells l) w) (hBw : B ≤ w.heap.size) :
    Calls Tryz.prog 107 #[.pointer (some ⟨b, 0, none⟩)] w fun e w' => e = .returned (.string ⟨l.toArray⟩) ∧ Below B w w' := Any.Builder_String_any Tryz.lays169 Tryz.Builder_Extra_169 B b l w h hBw
def Tryz.lays160_ren : Go.Shelf.Ren := ⟨fun | 160 => 125 | 232 => 158 | 231 => 157 | 227 => 159 | 234 => 161 | 233 => 160 | 236 => 163 | 235 => 162 | 228 => 176 | 271 => 179 | 151 => 178 | 197 => 177 | 120 => 185 | 152 => 184 | 260 => 183 | 137 => 190 | 119 => 191 | 224 => 192 | 225 => 193 | 217 => 199 | 266 => 202 | n => n, fun | 9 => 9 | 4 => 4 | 3 => 3 | 5 => 5 | 117 => 173 | 116 => 172 | 0 => 0 | 124 => 176 | 21 => 21 | 105 => 191 | 46 => 186 | 119 => 205 | 139 => 208 | 138 => 207 | n => n, fun | 3 => 3 | 4 => 4 | n => n⟩
theorem Tryz.lays160 : Go.Proofs.Lays.n160 Tryz.prog Tryz.lays160_ren := {
  mixed := by kernel_rfl
  f119 := Tryz.func191.trans (congrArg some (by kernel_rfl))
  f120 := Tryz.func185.trans (congrArg some (by kernel_rfl))
  f137 := Tryz.func190.trans (congrArg some (by kernel_rfl))
  f151 := Tryz.func178.trans (congrArg some (by kernel_rfl))
  f152 := Tryz.func184.trans (congrArg some (by kernel_rfl))
  f160 := Tryz.func125.trans (congrArg some (by kernel_rfl))
  f197 := Tryz.func177.trans (congrArg some (by kernel_rfl))
  f217 := Tryz.func199.trans (congrArg some (by kernel_rfl))
  f224 := Tryz.func192.trans (congrArg some (by kernel_rfl))
  f225 := Tryz.func193.trans (congrArg some (by kernel_rfl))
  f227 := Tryz.func159.trans (congrArg some (by kernel_rfl))
  f228 := Tryz.func176.trans (congrArg some (by kernel_rfl))
  f231 := Tryz.func157.trans (congrArg some (by kernel_rfl))
  f232 := Tryz.func158.trans (congrArg some (by kernel_rfl))
  f233 := Tryz.func160.trans (congrArg some (by kernel_rfl))
  f234 := Tryz.func161.trans (congrArg some (by kernel_rfl))
  f235 := Tryz.func162.trans (congrArg some (by kernel_rfl))
  f236 := Tryz.func163.trans (congrArg some (by kernel_rfl))
  f260 := Tryz.func183.trans (congrArg some (by kernel_rfl))
  f266 := Tryz.func202.trans (congrArg some (by kernel_rfl))
  f271 := Tryz.func179.trans (congrArg some (by kernel_rfl))
  t0 := Tryz.underlying0
  a0 := Tryz.isAgg0
  z0 := Tryz.sizeOf0
  v0 := Tryz.zeroValue0
  t3 := Tryz.underlying3
  a3 := Tryz.isAgg3
  z3 := Tryz.sizeOf3
  v3 := Tryz.zeroValue3
  t4 := Tryz.underlying4
  a4 := Tryz.isAgg4
  z4 := Tryz.sizeOf4
  v4 := Tryz.zeroValue4
  t5 := Tryz.underlying5
  a5 := Tryz.isAgg5
  z5 := Tryz.sizeOf5
  v5 := Tryz.zeroValue5
  t9 := Tryz.underlying9
  a9 := Tryz.isAgg9
  z9 := Tryz.sizeOf9
  v9 := Tryz.zeroValue9
  t21 := Tryz.underlying21
  a21 := Tryz.isAgg21
  z21 := Tryz.sizeOf21
  v21 := Tryz.zeroValue21
  t46 := Tryz.underlying186
  a46 := Tryz.isAgg186
  z46 := Tryz.sizeOf186
  v46 := Tryz.zeroValue186
  t105 := Tryz.underlying191
  a105 := Tryz.isAgg191
  z105 := Tryz.sizeOf191
  v105 := Tryz.zeroValue191
  t116 := Tryz.underlying172
  a116 := Tryz.isAgg172
  z116 := Tryz.sizeOf172
  t117 := Tryz.underlying173
  a117 := Tryz.isAgg173
  z117 := Tryz.sizeOf173
  v117 := Tryz.zeroValue173
  t119 := Tryz.underlying205
  a119 := Tryz.isAgg205
  z119 := Tryz.sizeOf205
  t124 := Tryz.underlying176
  a124 := Tryz.isAgg176
  z124 := Tryz.sizeOf176
  v124 := Tryz.zeroValue176
  t138 := Tryz.underlying207
  a138 := Tryz.isAgg207
  z138 := Tryz.sizeOf207
  v138 := Tryz.zeroValue207
  t139 := Tryz.underlying208
  a139 := Tryz.isAgg208
  z139 := Tryz.sizeOf208
  v139 := Tryz.zeroValue208
  g3 := by kernel_rfl
  g4 := by kernel_rfl }
def Tryz.laysM171_ren : Go.Shelf.Ren := ⟨fun | 171 => 134 | 243 => 167 | 246 => 180 | 283 => 186 | 284 => 187 | 285 => 188 | 286 => 189 | 129 => 195 | 317 => 194 | 318 => 196 | 319 => 197 | 320 => 198 | 337 => 200 | 338 => 201 | n => n, fun | 3 => 3 | 9 => 9 | 2 => 2 | 4 => 4 | 171 => 200 | 0 => 0 | 53 => 183 | 37 => 73 | 5 => 5 | 173 => 203 | 212 => 213 | 51 => 214 | 20 => 20 | 213 => 215 | 46 => 186 | 232 => 219 | 233 => 220 | n => n, fun | 17 => 5 | 18 => 7 | 19 => 8 | n => n⟩
theorem Tryz.laysM171 : Go.Proofs.LaysM.n171 Tryz.prog Tryz.laysM171_ren := {
  mixed := by kernel_rfl
  f129 := Tryz.func195.trans (congrArg some (by kernel_rfl))
  f171 := Tryz.func134.trans (congrArg some (by kernel_rfl))
  f243 := Tryz.func167.trans (congrArg some (by kernel_rfl))
  f246 := Tryz.func180.trans (congrArg some (by kernel_rfl))
  f283 := Tryz.func186.trans (congrArg some (by kernel_rfl))
  f284 := Tryz.func187.trans (congrArg some (by kernel_rfl))
  f285 := Tryz.func188.trans (congrArg some (by kernel_rfl))
  f286 := Tryz.func189.trans (congrArg some (by kernel_rfl))
  f317 := Tryz.func194.trans (congrArg some (by kernel_rfl))
  f318 := Tryz.func196.trans (congrArg some (by kernel_rfl))
  f319 := Tryz.func197.trans (congrArg some (by kernel_rfl))
  f320 := Tryz.func198.trans (congrArg some (by kernel_rfl))
  f337 := Tryz.func200.trans (congrArg some (by kernel_rfl))
  f338 := Tryz.func201.trans (congrArg some (by kernel_rfl))
  t0 := Tryz.underlying0
  a0 := Tryz.isAgg0
  z0 := Tryz.sizeOf0
  v0 := Tryz.zeroValue0
  t2 := Tryz.underlying2
  a2 := Tryz.isAgg2
  z2 := Tryz.sizeOf2
  v2 := Tryz.zeroValue2
  t3 := Tryz.underlying3
  a3 := Tryz.isAgg3
  z3 := Tryz.sizeOf3
  v3 := Tryz.zeroValue3
  t4 := Tryz.underlying4
  a4 := Tryz.isAgg4
  z4 := Tryz.sizeOf4
  v4 := Tryz.zeroValue4
  t5 := Tryz.underlying5
  a5 := Tryz.isAgg5
  z5 := Tryz.sizeOf5
  v5 := Tryz.zeroValue5
  t9 := Tryz.underlying9
  a9 := Tryz.isAgg9
  z9 := Tryz.sizeOf9
  v9 := Tryz.zeroValue9
  t20 := Tryz.underlying20
  a20 := Tryz.isAgg20
  z20 := Tryz.sizeOf20
  v20 := Tryz.zeroValue20
  t37 := Tryz.underlying73
  a37 := Tryz.isAgg73
  z37 := Tryz.sizeOf73
  v37 := Tryz.zeroValue73
  t46 := Tryz.underlying186
  a46 := Tryz.isAgg186
  z46 := Tryz.sizeOf186
  v46 := Tryz.zeroValue186
  t51 := Tryz.underlying214
  a51 := Tryz.isAgg214
  z51 := Tryz.sizeOf214
  v51 := Tryz.zeroValue214
  t53 := Tryz.underlying183
  a53 := Tryz.isAgg183
  z53 := Tryz.sizeOf183
  v53 := Tryz.zeroValue183
  t171 := Tryz.underlying200
  a171 := Tryz.isAgg200
  z171 := Tryz.sizeOf200
  v171 := Tryz.zeroValue200
  t173 := Tryz.underlying203
  a173 := Tryz.isAgg203
  z173 := Tryz.sizeOf203
  v173 := Tryz.zeroValue203
  t212 := Tryz.underlying213
  a212 := Tryz.isAgg213
  z212 := Tryz.sizeOf213
  v212 := Tryz.zeroValue213
  t213 := Tryz.underlying215
  a213 := Tryz.isAgg215
  z213 := Tryz.sizeOf215
  t232 := Tryz.underlying219
  a232 := Tryz.isAgg219
  z232 := Tryz.sizeOf219
  v232 := Tryz.zeroValue219
  t233 := Tryz.underlying220
  a233 := Tryz.isAgg220
  z233 := Tryz.sizeOf220
  v233 := Tryz.zeroValue220
  g17 := by kernel_rfl
  g18 := by kernel_rfl
  g19 := by kernel_rfl
  i0 := by kernel_rfl
  i2 := by kernel_rfl
  i3 := by kernel_rfl
  i4 := by kernel_rfl
  i5 := by kernel_rfl
  i9 := by kernel_rfl
  i20 := by kernel_rfl
  i37 := by kernel_rfl
  i46 := by kernel_rfl
  i51 := by kernel_rfl
  i53 := by kernel_rfl
  i171 := by kernel_rfl
  i173 := by kernel_rfl
  i212 := by kernel_rfl
  i232 := by kernel_rfl
  i233 := by kernel_rfl
  m17 := by kernel_rfl
  m18 := by kernel_rfl
  m19 := by kernel_rfl }
open Go.RowKit Go.Sort Go.Lib in
theorem Tryz.strconv_Itoa (n : Int) (h0 : -9223372036854775808 ≤ n) (h1 : n ≤ 9223372036854775807) (w : World) (htab : Lib.TabIs Tryz.prog w "internal/strconv.uint64pow10" .u64 Lib.pow10Tab) :
    Calls Tryz.prog 134 #[.int .i64 n] w fun e w' => e = .returned (.string ⟨(Lib.itoa n).toArray⟩) ∧ ∃ k os, w' = grow (w.drewN k) os := Any.strconv_Itoa Tryz.laysM171 n h0 h1 w htab
def Tryz.laysC172_ren : Go.Shelf.Ren := ⟨fun | 172 => 76 | 244 => 122 | 245 => 123 | 247 => 151 | 279 => 152 | 280 => 153 | 281 => 154 | 282 => 155 | 287 => 172 | 316 => 173 | 171 => 134 | 205 => 174 | 321 => 181 | 322 => 182 | 243 => 167 | 246 => 180 | 283 => 186 | 284 => 187 | 285 => 188 | 286 => 189 | 129 => 195 | 317 => 194 | 318 => 196 | 319 => 197 | 320 => 198 | 337 => 200 | 338 => 201 | n => n, fun | 9 => 9 | 3 => 3 | 75 => 124 | 76 => 125 | 4 => 4 | 5 => 5 | 167 => 164 | 37 => 73 | 0 => 0 | 85 => 165 | 2 => 2 | 168 => 167 | 53 => 183 | 175 => 184 | 46 => 186 | 210 => 188 | 127 => 157 | 145 => 198 | 143 => 196 | 21 => 21 | 171 => 200 | 173 => 203 | 212 => 213 | 51 => 214 | 20 => 20 | 213 => 215 | 232 => 219 | 233 => 220 | 80 => 95 | n => n, fun | 15 => 1 | 16 => 2 | 17 => 5 | 18 => 7 | 19 => 8 | n => n⟩
theorem Tryz.laysC172 : Go.Proofs.LaysC.n172 Tryz.prog Tryz.laysC172_ren := {
  mixed := by kernel_rfl
  f129 := Tryz.func195.trans (congrArg some (by kernel_rfl))
  f171 := Tryz.func134.trans (congrArg some (by kernel_rfl))
  f172 := Tryz.func76.trans (congrArg some (by kernel_rfl))
  f205 := Tryz.func174.trans (congrArg some (by kernel_rfl))
  f243 := Tryz.func167.trans (congrArg some (by kernel_rfl))
  f244 := Tryz.func122.trans (congrArg some (by kernel_rfl))
  f245 := Tryz.func123.trans (congrArg some (by kernel_rfl))
  f246 := Tryz.func180.trans (congrArg some (by kernel_rfl))
  f247 := Tryz.func151.trans (congrArg some (by kernel_rfl))
  f279 := Tryz.func152.trans (congrArg some (by kernel_rfl))
  f280 := Tryz.func153.trans (congrArg some (by kernel_rfl))
  f281 := Tryz.func154.trans (congrArg some (by kernel_rfl))
  f282 := Tryz.func155.trans (congrArg some (by kernel_rfl))
  f283 := Tryz.func186.trans (congrArg some (by kernel_rfl))
  f284 := Tryz.func187.trans (congrArg some (by kernel_rfl))
  f285 := Tryz.func188.trans (congrArg some (by kernel_rfl))
  f286 := Tryz.func189.trans (congrArg some (by kernel_rfl))
  f287 := Tryz.func172.trans (congrArg some (by kernel_rfl))
  f316 := Tryz.func173.trans (congrArg some (by kernel_rfl))
  f317 := Tryz.func194.trans (congrArg some (by kernel_rfl))
  f318 := Tryz.func196.trans (congrArg some (by kernel_rfl))
  f319 := Tryz.func197.trans (congrArg some (by kernel_rfl))
  f320 := Tryz.func198.trans (congrArg some (by kernel_rfl))
  f321 := Tryz.func181.trans (congrArg some (by kernel_rfl))
  f322 := Tryz.func182.trans (congrArg some (by kernel_rfl))
  f337 := Tryz.func200.trans (congrArg some (by kernel_rfl))
  f338 := Tryz.func201.trans (congrArg some (by kernel_rfl))
  t0 := Tryz.underlying0
  a0 := Tryz.isAgg0
  z0 := Tryz.sizeOf0
  v0 := Tryz.zeroValue0
  t2 := Tryz.underlying2
  a2 := Tryz.isAgg2
  z2 := Tryz.sizeOf2
  v2 := Tryz.zeroValue2
  t3 := Tryz.underlying3
  a3 := Tryz.isAgg3
  z3 := Tryz.sizeOf3
  v3 := Tryz.zeroValue3
  t4 := Tryz.underlying4
  a4 := Tryz.isAgg4
  z4 := Tryz.sizeOf4
  v4 := Tryz.zeroValue4
  t5 := Tryz.underlying5
  a5 := Tryz.isAgg5
  z5 := Tryz.sizeOf5
  v5 := Tryz.zeroValue5
  t9 := Tryz.underlying9
  a9 := Tryz.isAgg9
  z9 := Tryz.sizeOf9
  v9 := Tryz.zeroValue9
  t20 := Tryz.underlying20
  a20 := Tryz.isAgg20
  z20 := Tryz.sizeOf20
  v20 := Tryz.zeroValue20
  t21 := Tryz.underlying21
  a21 := Tryz.isAgg21
  z21 := Tryz.sizeOf21
  v21 := Tryz.zeroValue21
  t37 := Tryz.underlying73
  a37 := Tryz.isAgg73
  z37 := Tryz.sizeOf73
  v37 := Tryz.zeroValue73
  t46 := Tryz.underlying186
  a46 := Tryz.isAgg186
  z46 := Tryz.sizeOf186
  v46 := Tryz.zeroValue186
  t51 := Tryz.underlying214
  a51 := Tryz.isAgg214
  z51 := Tryz.sizeOf214
  v51 := Tryz.zeroValue214
  t53 := Tryz.underlying183
  a53 := Tryz.isAgg183
  z53 := Tryz.sizeOf183
  v53 := Tryz.zeroValue183
  t75 := Tryz.underlying124
  a75 := Tryz.isAgg124
  z75 := Tryz.sizeOf124
  v75 := Tryz.zeroValue124
  t76 := Tryz.underlying125
  a76 := Tryz.isAgg125
  z76 := Tryz.sizeOf125
  v76 := Tryz.zeroValue125
  t85 := Tryz.underlying165
  a85 := Tryz.isAgg165
  z85 := Tryz.sizeOf165
  v85 := Tryz.zeroValue165
  t127 := Tryz.underlying157
  a127 := Tryz.isAgg157
  z127 := Tryz.sizeOf157
  v127 := Tryz.zeroValue157
  t143 := Tryz.underlying196
  a143 := Tryz.isAgg196
  z143 := Tryz.sizeOf196
  v143 := Tryz.zeroValue196
  t145 := Tryz.underlying198
  a145 := Tryz.isAgg198
  z145 := Tryz.sizeOf198
  v145 := Tryz.zeroValue198
  t167 := Tryz.underlying164
  a167 := Tryz.isAgg164
  z167 := Tryz.sizeOf164
  v167 := Tryz.zeroValue164
  t168 := Tryz.underlying167
  a168 := Tryz.isAgg167
  z168 := Tryz.sizeOf167
  v168 := Tryz.zeroValue167
  t171 := Tryz.underlying200
  a171 := Tryz.isAgg200
  z171 := Tryz.sizeOf200
  v171 := Tryz.zeroValue200
  t173 := Tryz.underlying203
  a173 := Tryz.isAgg203
  z173 := Tryz.sizeOf203
  v173 := Tryz.zeroValue203
  t175 := Tryz.underlying184
  a175 := Tryz.isAgg184
  z175 := Tryz.sizeOf184
  v175 := Tryz.zeroValue184
  t210 := Tryz.underlying188
  a210 := Tryz.isAgg188
  z210 := Tryz.sizeOf188
  v210 := Tryz.zeroValue188
  t212 := Tryz.underlying213
  a212 := Tryz.isAgg213
  z212 := Tryz.sizeOf213
  v212 := Tryz.zeroValue213
  t213 := Tryz.underlying215
  a213 := Tryz.isAgg215
  z213 := Tryz.sizeOf215
  t232 := Tryz.underlying219
  a232 := Tryz.isAgg219
  z232 := Tryz.sizeOf219
  v232 := Tryz.zeroValue219
  t233 := Tryz.underlying220
  a233 := Tryz.isAgg220
  z233 := Tryz.sizeOf220
  v233 := Tryz.zeroValue220
  g15 := by kernel_rfl
  g16 := by kernel_rfl
  g17 := by kernel_rfl
  g18 := by kernel_rfl
  g19 := by kernel_rfl
  t80 := Tryz.underlying95
  a80 := Tryz.isAgg95
  z80 := Tryz.sizeOf95
  v80 := Tryz.zeroValue95
  i0 := by kernel_rfl
  i2 := by kernel_rfl
  i3 := by kernel_rfl
  i4 := by kernel_rfl
  i5 := by kernel_rfl
  i9 := by kernel_rfl
  i20 := by kernel_rfl
  i21 := by kernel_rfl
  i37 := by kernel_rfl
  i46 := by kernel_rfl
  i51 := by kernel_rfl
  i53 := by kernel_rfl
  i75 := by kernel_rfl
  i76 := by kernel_rfl
  i80 := by kernel_rfl
  i85 := by kernel_rfl
  i127 := by kernel_rfl
  i143 := by kernel_rfl
  i145 := by kernel_rfl
  i167 := by kernel_rfl
  i168 := by kernel_rfl
  i171 := by kernel_rfl
  i173 := by kernel_rfl
  i175 := by kernel_rfl
  i210 := by kernel_rfl
  i212 := by kernel_rfl
  i232 := by kernel_rfl
  i233 := by kernel_rfl
  m15 := by kernel_rfl
  m16 := by kernel_rfl
  m17 := by kernel_rfl
  m18 := by kernel_rfl
  m19 := by kernel_rfl
  c0 := by kernel_rfl
  c2 := by kernel_rfl
  c3 := by kernel_rfl
  c4 := by kernel_rfl
  c5 := by kernel_rfl
  c9 := by kernel_rfl
  c20 := by kernel_rfl
  c21 := by kernel_rfl
  c37 := by kernel_rfl
  c46 := by kernel_rfl
  c51 := by kernel_rfl
  c53 := by kernel_rfl
  c75 := by kernel_rfl
  c76 := by kernel_rfl
  c80 := by kernel_rfl
  c85 := by kernel_rfl
  c127 := by kernel_rfl
  c143 := by kernel_rfl
  c145 := by kernel_rfl
  c167 := by kernel_rfl
  c168 := by kernel_rfl
  c171 := by kernel_rfl
  c173 := by kernel_rfl
  c175 := by kernel_rfl
  c210 := by kernel_rfl
  c212 := by kernel_rfl
  c213 := by kernel_rfl
  c232 := by kernel_rfl
  c233 := by kernel_rfl }
open Go.RowKit in
theorem Tryz.strconv_Atoi_ok (s : ByteArray) (hmax : s.size ≤ 9223372036854775806) (v : Int) (h : Lib.atoiAll s.data.toList = .ok v) (w : World) :
    Calls Tryz.prog 76 #[.string s] w fun e w' => e = .returned (.tuple #[.int .i64 v, .nilIface]) ∧ (w' = w ∨ ∃ t, w' = Lib.bytesWorld w 5 t) := Any.strconv_Atoi_ok Tryz.laysC172 s hmax v h w
open Go.RowKit in
theorem Tryz.strconv_Atoi_syntax_var (s : ByteArray) (hlim : s.size ≤ 281474976710656) (h : Lib.atoiAll s.data.toList = .«syntax») (tp : TypeId) (p : Value) (w : World) (hvar : w.var? Tryz.prog "strconv.ErrSyntax" = some #[.iface tp p]) :
    Calls Tryz.prog 76 #[.string s] w fun e w' => ∃ N, e = .returned (.tuple #[.int .i64 0, .iface 167 (.pointer (some ⟨N, 0, none⟩))]) ∧ w.heap.size ≤ N ∧ w'.heap[N]? = some (.cells #[.string ⟨#[65, 116, 111, 105]⟩, .string s, .iface tp p] 188 (0, 0)) ∧ Below w.heap.size w w' := Any.strconv_Atoi_syntax_var Tryz.laysC172 s hlim h tp p w hvar
open Go.RowKit in
theorem Tryz.strconv_Atoi_range_var (s : ByteArray) (hlim : s.size ≤ 281474976710656) (h : Lib.atoiAll s.data.toList = .range) (tp : TypeId) (p : Value) (w : World) (hvar : w.var? Tryz.prog "strconv.ErrRange" = some #[.iface tp p]) :
    Calls Tryz.prog 76 #[.string s] w fun e w' => ∃ N, e = .returned (.tuple #[.int .i64 (Lib.atoiSat s.data.toList), .iface 167 (.pointer (some ⟨N, 0, none⟩))]) ∧ w.heap.size ≤ N ∧ w'.heap[N]? = some (.cells #[.string ⟨#[65, 116, 111, 105]⟩, .string s, .iface tp p] 188 (0, 0)) ∧ Below w.heap.size w w' := Any.strconv_Atoi_range_var Tryz.laysC172 s hlim h tp p w hvar
def Tryz.lays101_ren : Go.Shelf.Ren := ⟨fun | 101 => 124 | 208 => 156 | 206 => 175 | n => n, fun | 9 => 9 | 4 => 4 | 3 => 3 | n => n, fun | n => n⟩
theorem Tryz.lays101 : Go.Proofs.Lays.n101 Tryz.prog Tryz.lays101_ren := {
  mixed := by kernel_rfl
  f101 := Tryz.func124.trans (congrArg some (by kernel_rfl))
  f206 := Tryz.func175.trans (congrArg some (by kernel_rfl))
  f208 := Tryz.func156.trans (congrArg some (by kernel_rfl))
  t3 := Tryz.underlying3
  a3 := Tryz.isAgg3
  z3 := Tryz.sizeOf3
  v3 := Tryz.zeroValue3
  t4 := Tryz.underlying4
  a4 := Tryz.isAgg4
  z4 := Tryz.sizeOf4
  v4 := Tryz.zeroValue4
  t9 := Tryz.underlying9
  a9 := Tryz.isAgg9
  z9 := Tryz.sizeOf9
  v9 := Tryz.zeroValue9 }
open Go.RowKit Go.Lib in
theorem Tryz.strings_TrimPrefix (s p : ByteArray) (w : World) :
    Calls Tryz.prog 124 #[.string s, .string p] w fun e w' => e = .returned (.string ⟨(Lib.trimPrefix s.data.toList p.data.toList).toArray⟩) ∧ w' = w := Any.strings_TrimPrefix Tryz.lays101 s p w
def Tryz.lays109_ren : Go.Shelf.Ren := ⟨fun | 109 => 126 | n => n, fun | 31 => 33 | 9 => 9 | 3 => 3 | 0 => 0 | 4 => 4 | n => n, fun | n => n⟩
theorem Tryz.lays109 : Go.Proofs.Lays.n109 Tryz.prog Tryz.lays109_ren := {
  mixed := by kernel_rfl
  f109 := Tryz.func126.trans (congrArg some (by kernel_rfl))
  t0 := Tryz.underlying0
  a0 := Tryz.isAgg0
  z0 := Tryz.sizeOf0
  v0 := Tryz.zeroValue0
  t3 := Tryz.underlying3
  a3 := Tryz.isAgg3
  z3 := Tryz.sizeOf3
  v3 := Tryz.zeroValue3
  t4 := Tryz.underlying4
  a4 := Tryz.isAgg4
  z4 := Tryz.sizeOf4
  v4 := Tryz.zeroValue4
  t9 := Tryz.underlying9
  a9 := Tryz.isAgg9
  z9 := Tryz.sizeOf9
  v9 := Tryz.zeroValue9
  t31 := Tryz.underlying33
  a31 := Tryz.isAgg33
  z31 := Tryz.sizeOf33
  v31 := Tryz.zeroValue33 }
open Go.Lib in
theorem Tryz.slices_Index_string (b off n c : Nat) (zs : List ByteArray) (x : ByteArray) (w : World) (hz : n ≤ zs.length) (hbig : n ≤ 9223372036854775807) (hc : ∀ j, j < zs.length → w.cell? ⟨b, off + j, none⟩ = some (.string (zs.getD j ByteArray.empty))) :
    Calls Tryz.prog 126 #[.slice (some ⟨b, off, none⟩) n c, .string x] w fun e w' => e = .returned (.int .i64 (Lib.idxOfS (zs.take n) x)) ∧ w' = w := Any.slices_Index_string Tryz.lays109 b off n c zs x w hz hbig hc
def Tryz.lays110_ren : Go.Shelf.Ren := ⟨fun | 110 => 82 | 109 => 126 | n => n, fun | 31 => 33 | 9 => 9 | 4 => 4 | 3 => 3 | 0 => 0 | n => n, fun | n => n⟩
theorem Tryz.lays110 : Go.Proofs.Lays.n110 Tryz.prog Tryz.lays110_ren := {
  mixed := by kernel_rfl
  f109 := Tryz.func126.trans (congrArg some (by kernel_rfl))
  f110 := Tryz.func82.trans (congrArg some (by kernel_rfl))
  t0 := Tryz.underlying0
  a0 := Tryz.isAgg0
  z0 := Tryz.sizeOf0
  v0 := Tryz.zeroValue0
  t3 := Tryz.underlying3
  a3 := Tryz.isAgg3
  z3 := Tryz.sizeOf3
  v3 := Tryz.zeroValue3
  t4 := Tryz.underlying4
  a4 := Tryz.isAgg4
  z4 := Tryz.sizeOf4
  v4 := Tryz.zeroValue4
  t9 := Tryz.underlying9
  a9 := Tryz.isAgg9
  z9 := Tryz.sizeOf9
  v9 := Tryz.zeroValue9
  t31 := Tryz.underlying33
  a31 := Tryz.isAgg33
  z31 := Tryz.sizeOf33
  v31 := Tryz.zeroValue33 }
open Go.Lib in
theorem Tryz.slices_Contains_string (b off n c : Nat) (zs : List ByteArray) (x : ByteArray) (w : World) (hz : n ≤ zs.length) (hbig : n ≤ 9223372036854775807) (hc : ∀ j, j < zs.length → w.cell? ⟨b, off + j, none⟩ = some (.string (zs.getD j ByteArray.empty))) :
    Calls Tryz.prog 82 #[.slice (some ⟨b, off, none⟩) n c, .string x] w fun e w' => e = .returned (.bool (Lib.containsS (zs.take n) x)) ∧ w' = w := Any.slices_Contains_string Tryz.lays110 b off n c zs x w hz hbig hc
def Tryz.lays111_ren : Go.Shelf.Ren := ⟨fun | 111 => 121 | n => n, fun | 28 => 22 | 3 => 3 | 4 => 4 | 0 => 0 | n => n, fun | n => n⟩
theorem Tryz.lays111 : Go.Proofs.Lays.n111 Tryz.prog Tryz.lays111_ren := {
  mixed := by kernel_rfl
  f111 := Tryz.func121.trans (congrArg some (by kernel_rfl))
  t0 := Tryz.underlying0
  a0 := Tryz.isAgg0
  z0 := Tryz.sizeOf0
  v0 := Tryz.zeroValue0
  t3 := Tryz.underlying3
  a3 := Tryz.isAgg3
  z3 := Tryz.sizeOf3
  v3 := Tryz.zeroValue3
  t4 := Tryz.underlying4
  a4 := Tryz.isAgg4
  z4 := Tryz.sizeOf4
  v4 := Tryz.zeroValue4
  t28 := Tryz.underlying22
  a28 := Tryz.isAgg22
  z28 := Tryz.sizeOf22
  v28 := Tryz.zeroValue22 }
open Go.RowKit Go.Lib in
theorem Tryz.slices_Equal_int (b1 o1 n c b2 o2 m d : Nat) (xs ys : List Int) (w : World) (hx : n ≤ xs.length) (hy : m ≤ ys.length) (hbig : n ≤ 9223372036854775807) (hbig2 : m ≤ 9223372036854775807) (hc1 : ∀ j, j < xs.length → w.cell? ⟨b1, o1 + j, none⟩ = some (.int .i64 (xs.getD j 0))) (hc2 : ∀ j, j < ys.length → w.cell? ⟨b2, o2 + j, none⟩ = some (.int .i64 (ys.getD j 0))) :
    Calls Tryz.prog 121 #[.slice (some ⟨b1, o1, none⟩) n c, .slice (some ⟨b2, o2, none⟩) m d] w fun e w' => e = .returned (.bool (xs.take n == ys.take m)) ∧ ∃ q, w' = w.drewN q := Any.slices_Equal_int Tryz.lays111 b1 o1 n c b2 o2 m d xs ys w hx hy hbig hbig2 hc1 hc2
open Go.RowKit Go.Lib in
theorem Tryz.slices_Equal_int_empty (a1 a2 : Option Addr) (c m d : Nat) (w : World) (hbig2 : m ≤ 9223372036854775807) :
    Calls Tryz.prog 121 #[.slice a1 0 c, .slice a2 m d] w fun e w' => e = .returned (.bool (decide (m = 0))) ∧ w' = w := Any.slices_Equal_int_empty Tryz.lays111 a1 a2 c m d w hbig2
def Tryz.lays193_ren : Go.Shelf.Ren := ⟨fun | 193 => 65 | n => n, fun | 31 => 33 | 9 => 9 | 4 => 4 | 3 => 3 | 0 => 0 | n => n, fun | n => n⟩
theorem Tryz.lays193 : Go.Proofs.Lays.n193 Tryz.prog Tryz.lays193_ren := {
  mixed := by kernel_rfl
  f193 := Tryz.func65.trans (congrArg some (by kernel_rfl))
  t0 := Tryz.underlying0
  a0 := Tryz.isAgg0
  z0 := Tryz.sizeOf0
  v0 := Tryz.zeroValue0
  t3 := Tryz.underlying3
  a3 := Tryz.isAgg3
  z3 := Tryz.sizeOf3
  v3 := Tryz.zeroValue3
  t4 := Tryz.underlying4
  a4 := Tryz.isAgg4
  z4 := Tryz.sizeOf4
  v4 := Tryz.zeroValue4
  t9 := Tryz.underlying9
  a9 := Tryz.isAgg9
  z9 := Tryz.sizeOf9
  v9 := Tryz.zeroValue9
  t31 := Tryz.underlying33
  a31 := Tryz.isAgg33
  z31 := Tryz.sizeOf33
  v31 := Tryz.zeroValue33 }
open Go.RowKit Go.Lib in
theorem Tryz.slices_Equal_string (b1 o1 n c b2 o2 m d : Nat) (xs ys : List ByteArray) (w : World) (hx : n ≤ xs.length) (hy : m ≤ ys.length) (hbig : n ≤ 9223372036854775807) (hbig2 : m ≤ 9223372036854775807) (hc1 : ∀ j, j < xs.length → w.cell? ⟨b1, o1 + j, none⟩ = some (.string (xs.getD j ByteArray.empty))) (hc2 : ∀ j, j < ys.length → w.cell? ⟨b2, o2 + j, none⟩ = some (.string (ys.getD j ByteArray.empty))) :
    Calls Tryz.prog 65 #[.slice (some ⟨b1, o1, none⟩) n c, .slice (some ⟨b2, o2, none⟩) m d] w fun e w' => e = .returned (.bool (decide (xs.take n = ys.take m))) ∧ ∃ q, w' = w.drewN q := Any.slices_Equal_string Tryz.lays193 b1 o1 n c b2 o2 m d xs ys w hx hy hbig hbig2 hc1 hc2
open Go.RowKit Go.Lib in
theorem Tryz.slices_Equal_string_empty (a1 a2 : Option Addr) (c m d : Nat) (w : World) (hbig2 : m ≤ 9223372036854775807) :
    Calls Tryz.prog 65 #[.slice a1 0 c, .slice a2 m d] w fun e w' => e = .returned (.bool (decide (m = 0))) ∧ w' = w := Any.slices_Equal_string_empty Tryz.lays193 a1 a2 c m d w hbig2
open Go.RowKit Go.Lib in
theorem Tryz.slices_Equal_int_lens (a1 a2 : Option Addr) (n c m d : Nat) (w : World) (hnm : n ≠ m) :
    Calls Tryz.prog 121 #[.slice a1 n c, .slice a2 m d] w fun e w' => e = .returned (.bool false) ∧ w' = w := Any.slices_Equal_int_lens Tryz.lays111 a1 a2 n c m d w hnm
open Go.RowKit Go.Lib in
theorem Tryz.slices_Equal_string_lens (a1 a2 : Option Addr) (n c m d : Nat) (w : World) (hnm : n ≠ m) :
    Calls Tryz.prog 65 #[.slice a1 n c, .slice a2 m d] w fun e w' => e = .returned (.bool false) ∧ w' = w := Any.slices_Equal_string_lens Tryz.lays193 a1 a2 n c m d w hnm
end Go.Proofs
namespace Go.Proofs.YtmplaikgbeeikaaGreatDoor
open Go Go.RowKit
/-- Where the row lies behind an append of a text. -/
theorem append_string_at {P : Program} (w : World) (base : Nat) (t u ty e : TypeId) (i : TypeInfo) (ht : P.underlying t = some (.slice e)) (hu : P.underlying u = some .string) (hi : P.info? e = some i) (hz : i.zero = some (.int .u8 0)) (hsize : i.size = 1) (hby : i.bytes = 1)
    (v : Value) (n : Nat) (xs : List Value) (hown : w.ownsRow base e 1 v n xs) (s : ByteArray) (h47 : n + s.size ≤ 140737488355328) (v' : Value) (w' : World) (hrun : (Builtin.append_ #[t, u] ty #[v, .string s]).run P w = .ok v' w') : v'.ownBlock = v.ownBlock ∨ v'.ownBlock = some w.heap.size := by
  rcases hown.2 with ⟨rfl, rfl⟩ | ⟨g, cap, cur, rfl, hbg, hg, hnc, hcm, hcs, htk⟩
  · by_cases hs : s.size = 0
    · have hf := Lib.run_firstCells_string (P := P) w 1 s
      rw [hs] at hf
      have h2 : (Builtin.append_ #[t, u] ty #[.slice none 0 0, .string s]).run P w = .ok (.slice none 0 0) w := by
        simp [Builtin.append_, run_underlying ht, run_underlying hu, sizeOf, typeInfo, hi, hsize, Builtin.lenOf, hs, hf]
      rw [h2] at hrun
      injection hrun with h3 h4
      left; rw [← h3]
    · have h2 := run_append_nil_string (P := P) w t u ty e i (.int .u8 0) ht hu hi hz s (by omega) (by omega) (by rw [hby]; omega)
      rw [h2] at hrun
      injection hrun with h3 h4
      right; rw [← h3]; rfl
  · by_cases hroom : n + s.size ≤ cap
    · have h2 := Lib.run_append_room_string (P := P) w t u ty e i ht hu hi hsize g n cap cur hg s hroom (by omega)
      rw [h2] at hrun
      injection hrun with h3 h4
      left; rw [← h3]; rfl
    · have hx : xs.length = n := by have := hown.1; omega
      have h2 := Lib.run_append_grow_string (P := P) w t u ty e i (.int .u8 0) ht hu hi hz ⟨g, 0, none⟩ n cap xs (by rw [hsize]; omega) (hown.cells (g := g) rfl) s (by omega) (by omega) (by rw [hby]; exact growslice_fits (by omega) (by omega))
      rw [h2] at hrun
      injection hrun with h3 h4
      right; rw [← h3]; rfl
theorem wpList_append_str {P : Program} {ops : Array Oper} {rest : List Oper} {o : Oper} {a : Act} {Q : Exit → Act → World → Prop} (hgd : o.guard = none) (sl x : Operand) (t u : TypeId)
    (ho : o.op = .call { callee := .builtin .append, args := #[sl, x], argTypes := #[t, u] }) (e : TypeId) (i : TypeInfo) (ht : P.underlying t = some (.slice e)) (hu : P.underlying u = some .string) (hi : P.info? e = some i) (hz : i.zero = some (.int .u8 0)) (hsize : i.size = 1) (hby : i.bytes = 1)
    {w W : World} {G M : List Nat} {bx : List Box} {L : List (List Nat → World → Prop)} {v : Value} {n : Nat} {xs : List Value} (H : HRow w G M bx L e 1 v n xs W) (hs : a.eval sl = v) (s : ByteArray) (hx : a.eval x = .string s) (h47 : n + s.size ≤ 140737488355328)
    (h : ∀ v' W' M', HRow w G M' bx L e 1 v' (n + s.size) (xs ++ Lib.strCells s) W' → (∀ g ∈ M, g ∈ M') → wpList P ops Q rest (a.put o.dst v') W') : wpList P ops Q (o :: rest) a W := by
  obtain ⟨v', W', hr, h2, h3, _⟩ := Lib.run_append_own_string (P := P) W w.heap.size t u o.type e i ht hu hi hz hsize hby v n xs H.own s (by unfold maxLen; omega) h47 H.h.bl.size
  have h4 := append_string_at (P := P) W w.heap.size t u o.type e i ht hu hi hz hsize hby v n xs H.own s h47 v' W' hr
  obtain ⟨M', k1, k2, k3⟩ := H.h.grown H.ok h3 h4 h2
  refine wpList_plain hgd fun K hK => ?_
  unfold Oper.wp execOp
  simp only [ho, resolve, invoke, builtin, Sem.run_bind, Sem.run_pure, Result.andThen_ok, List.map_toArray, List.map_cons, List.map_nil, hs, hx, hr]
  exact hK _ _ (h v' W' M' ⟨k1, k2, h2⟩ k3)
/-- A builder that a call has: its box, what was written to it. -/
structure Bld (w : World) (G M : List Nat) (bx : List Box) (L : List (List Nat → World → Prop)) (b : Nat) (l : List UInt8) (W : World) : Prop where
  it : ∃ p v, (p = .pointer none ∨ p = .pointer (some ⟨b, 0, none⟩)) ∧ HRow w G M ((b, 141, #[p, v]) :: bx) L 5 1 v l.length (byteVals l) W
theorem infoBld : (Tryz.prog.info? 141).map (·.size) = some 2 := by kernel_rfl
theorem liesBld : liesAt Tryz.prog Tryz.prog.depth 141 (2 / Tryz.prog.cellsOf 141) 0 141 1 = true := by kernel_rfl
set_option maxHeartbeats 1000000 in
set_option maxRecDepth 100000 in
theorem copyCheck_fresh (b : Nat) (v : Value) (w : World) (hb : Blk w b 141 #[.pointer none, v]) : Calls Tryz.prog 132 #[.pointer (some ⟨b, 0, none⟩)] w fun e w' => e = .returned (.tuple #[]) ∧ w' = w.setCell ⟨b, 0, none⟩ (.pointer (some ⟨b, 0, none⟩)) := by
  obtain ⟨j, hj, hjs⟩ := Option.map_eq_some_iff.1 infoBld
  have h0 : w.cell? ⟨b, 0, none⟩ = some (.pointer none) := hb.cell 0
  have hsh : w.shape? b = some (141, 2) := by unfold World.shape?; rw [show w.heap[b]? = _ from hb]; rfl
  have hfz := hb.frozen 0
  have HL := Lib.hid liesBld
  clear hb
  go_enter Tryz.func132, Tryz.ntmps132
  go_wp2
  rw [Lib.run_to_unsafe w ⟨b, 0, none⟩ Tryz.underlying139 Tryz.underlying177 hj (by rw [hjs]; decide) hsh (Nat.zero_lt_succ 1)]
  simp only [Result.andThen]
  rw [Oper.upon_value]
  go_wp2
  rw [run_callFunc_extern Tryz.func166 (by kernel_rfl) (by kernel_rfl) (by kernel_rfl) (e := Extern.AbiNoEscape.same) (by kernel_rfl)]
  rw [Lib.run_noEscape]
  simp only [Result.andThen]
  rw [Oper.upon_value]
  go_wp2
  rw [Lib.run_from_unsafe w ⟨b, 0, none⟩ Tryz.underlying177 Tryz.underlying139 hj hsh HL.out]
  simp only [Result.andThen]
  rw [Oper.upon_value]
  go_wp2
  go_end0
  exact ⟨rfl, rfl⟩
set_option maxHeartbeats 1000000 in
set_option maxRecDepth 100000 in
theorem copyCheck_used (b : Nat) (v : Value) (w : World) (hb : Blk w b 141 #[.pointer (some ⟨b, 0, none⟩), v]) : Calls Tryz.prog 132 #[.pointer (some ⟨b, 0, none⟩)] w fun e w' => e = .returned (.tuple #[]) ∧ w' = w := by
  obtain ⟨j, hj, _⟩ := Option.map_eq_some_iff.1 infoBld
  have h0 : w.cell? ⟨b, 0, none⟩ = some (.pointer (some ⟨b, 0, none⟩)) := hb.cell 0
  clear hb
  go_enter Tryz.func132, Tryz.ntmps132
  go_wp2
  rw [Lib.run_neq_ptr_same w _ Tryz.underlying139 hj]
  go_wp2
  go_end0
  exact ⟨rfl, rfl⟩
/-- The call of copyCheck, at a builder that a call has. -/
theorem copyCheck_any {w W : World} {G M : List Nat} {bx : List Box} {L : List (List Nat → World → Prop)} {b : Nat} {l : List UInt8} (H : Bld w G M bx L b l W) : Calls Tryz.prog 132 #[.pointer (some ⟨b, 0, none⟩)] W fun e W' => e = .returned (.tuple #[]) ∧
    ∃ v, HRow w G M ((b, 141, #[.pointer (some ⟨b, 0, none⟩), v]) :: bx) L 5 1 v l.length (byteVals l) W' := by
  obtain ⟨p, v, hp, h⟩ := H.it
  rcases hp with rfl | rfl
  · refine (copyCheck_fresh b v W (h.h.box (.head _))).mono ?_
    rintro e W' ⟨rfl, rfl⟩
    exact ⟨rfl, v, h.set_ (bx1 := []) 0 _⟩
  · refine (copyCheck_used b v W (h.h.box (.head _))).mono ?_
    rintro e W' ⟨rfl, rfl⟩
    exact ⟨rfl, v, h⟩
def BldP (w : World) (G M : List Nat) (bx : List Box) (L : List (List Nat → World → Prop)) (b : Nat) (l : List UInt8) (r : Value) (e : Ending) (W : World) : Prop := e = .returned r ∧ ∃ M', Bld w G M' bx L b l W ∧ ∀ g ∈ M, g ∈ M'
theorem strCells_is (s : ByteArray) : Lib.strCells s = byteVals s.data.toList := rfl
theorem bcells {w : World} {g : Nat} {t : TypeId} {a b : Value} (h : Blk w g t #[a, b]) : w.cell? ⟨g, 0, none⟩ = some a ∧ w.cell? ⟨g, 1, none⟩ = some b ∧ w.frozen? ⟨g, 0, none⟩ = false ∧ w.frozen? ⟨g, 1, none⟩ = false := ⟨h.cell 0, h.cell 1, h.frozen 0, h.frozen 1⟩
set_option maxHeartbeats 2000000 in
set_option maxRecDepth 100000 in
theorem writeString_any {w W : World} {G M : List Nat} {bx : List Box} {L : List (List Nat → World → Prop)} {b : Nat} {l : List UInt8} (s : ByteArray) (H : Bld w G M bx L b l W) (h47 : l.length + s.size ≤ 140737488355328) :
    Calls Tryz.prog 103 #[.pointer (some ⟨b, 0, none⟩), .string s] W (BldP w G M bx L b (l ++ s.data.toList) (.tuple #[.int .i64 s.size, .nilIface])) := by
  obtain ⟨i0, hi, hz0, hz1, hz2⟩ := info_parts infoU8
  have HII := Lib.hid (show _ ∧ _ ∧ _ ∧ _ from ⟨hi, hz0, hz1, hz2⟩)
  have CC := Lib.hid (copyCheck_any H)
  have HL := Lib.hid (show l.length + s.size = (l ++ s.data.toList).length by simp)
  have HB := Lib.hid (show byteVals l ++ Lib.strCells s = byteVals (l ++ s.data.toList) by rw [strCells_is, ← byteVals_append])
  obtain ⟨n, hn⟩ : ∃ n, l.length = n := ⟨_, rfl⟩
  rw [hn] at CC HL h47
  generalize l ++ s.data.toList = l' at *
  clear H hi hz0 hz1 hz2 hn
  go_enter Tryz.func103, Tryz.ntmps103
  go_wp2_with (first | (go_at_call 132; ((with_reducible refine (CC.out).mono ?_)); rintro e w1 ⟨rfl, v, hr⟩; have T := Lib.hid hr; obtain ⟨c0, c1, f0, f1⟩ := bcells (T.out.h.box (.head _)); clear hr) | (at_builtin; obtain ⟨hi, hz0, hz1, hz2⟩ := HII.out; refine wpList_append_str (by rfl) _ _ 73 9 (by rfl) 5 i0 Tryz.underlying73 Tryz.underlying9 hi hz0 hz1 hz2 T.out (by rfl) s (by rfl) h47 ?_; intro v' w' M' h' hM; obtain ⟨A', c', rfl⟩ := own_form h'.own; rw [HB.out, HL.out] at h'; replace T := Lib.hid h'; clear h' hi hz0 hz1 hz2 c0 c1 f0 f1; obtain ⟨c0, c1, f0, f1⟩ := bcells (T.out.h.box (.head _)); have HM := Lib.hid hM; clear hM))
  go_ret2
  rw [HL.out]
  exact ⟨rfl, _, ⟨⟨_, _, .inr rfl, T.out.set_ (bx1 := []) 1 _⟩⟩, HM.out⟩
set_option maxHeartbeats 2000000 in
set_option maxRecDepth 100000 in
theorem writeByte_any {w W : World} {G M : List Nat} {bx : List Box} {L : List (List Nat → World → Prop)} {b : Nat} {l : List UInt8} (c : UInt8) (H : Bld w G M bx L b l W) (h47 : l.length + 1 ≤ 140737488355328) :
    Calls Tryz.prog 133 #[.pointer (some ⟨b, 0, none⟩), .int .u8 c.toNat] W (BldP w G M bx L b (l ++ [c]) .nilIface) := by
  obtain ⟨i0, hi, hz0, hz1, hz2⟩ := info_parts infoU8
  have HII := Lib.hid (show _ ∧ _ ∧ _ ∧ _ from ⟨hi, hz0, hz1, hz2⟩)
  have CC := Lib.hid (copyCheck_any H)
  have HL := Lib.hid (show l.length + 1 = (l ++ [c]).length by simp)
  have HB := Lib.hid (byteVals_snoc l c)
  obtain ⟨n, hn⟩ : ∃ n, l.length = n := ⟨_, rfl⟩
  rw [hn] at CC HL h47
  generalize l ++ [c] = l' at *
  clear H hi hz0 hz1 hz2 hn
  go_enter Tryz.func133, Tryz.ntmps133
  go_wp2_with (first | (go_at_call 132; ((with_reducible refine (CC.out).mono ?_)); rintro e w1 ⟨rfl, v, hr⟩; have T := Lib.hid hr; obtain ⟨c0, c1, f0, f1⟩ := bcells (T.out.h.box (.head _)); clear hr) | (at_builtin; obtain ⟨hi, hz0, hz1, hz2⟩ := HII.out; refine wpList_append_row (by rfl) _ _ 73 (by rfl) 5 i0 _ 1 1 Tryz.underlying73 hi hz0 hz1 hz2 rfl (by decide) (T.out.below ((Below.refl _ _).alloc (Nat.le_refl _) _)) (by rfl) _ _ 1 1 [.int .u8 c.toNat] (by rfl) (reads_blk (Blk.new _ _ _) rfl) (byte_one c) (by unfold maxLen; omega) (by omega) ?_; intro v' w' M' h' hM; obtain ⟨A', c', rfl⟩ := own_form h'.own; rw [HB.out, HL.out] at h'; replace T := Lib.hid h'; clear h' hi hz0 hz1 hz2 c0 c1 f0 f1; obtain ⟨c0, c1, f0, f1⟩ := bcells (T.out.h.box (.head _)); have HM := Lib.hid hM; clear hM))
  go_ret
  rw [HL.out]
  exact ⟨rfl, _, ⟨⟨_, _, .inr rfl, T.out.set_ (bx1 := []) 1 _⟩⟩, HM.out⟩
/-- The text of a builder. -/
theorem bldString_any {w W : World} {G M : List Nat} {bx : List Box} {L : List (List Nat → World → Prop)} {b : Nat} {l : List UInt8} (H : Bld w G M bx L b l W) :
    Calls Tryz.prog 107 #[.pointer (some ⟨b, 0, none⟩)] W fun e W' => e = .returned (.string ⟨l.toArray⟩) ∧ Below w.heap.size W W' := by
  obtain ⟨p, v, hp, h⟩ := H.it
  have hb := h.h.bs _ (.head _)
  have hAt : Lib.BuilderAt 141 5 w.heap.size b p (byteVals l) W := ⟨hb.2.1, v, hb.2.2, by rw [byteVals_length]; exact h.own, fun he => (h.ok b he).2.2 _ (.head _) rfl⟩
  exact Tryz.Builder_String_any w.heap.size b l W (by rcases hp with rfl | rfl <;> first | exact .inl hAt | exact .inr hAt) h.h.bl.size
/-- A builder that was just made. -/
theorem Bld.new {w W : World} {G M : List Nat} {bx : List Box} {L : List (List Nat → World → Prop)} (h : Held w G M bx L W) : Bld w G (W.heap.size :: M) bx L W.heap.size [] (W.alloc (.cells #[.pointer none, .slice none 0 0] 141)) :=
  ⟨⟨_, _, .inl rfl, HRow.start (h.new _ _ rfl)⟩⟩
section
variable {w W W' : World} {G M : List Nat} {bx : List Box} {L : List (List Nat → World → Prop)} {b : Nat} {l : List UInt8}
theorem Held.perm {bx' : List Box} (h : Held w G M bx L W) (hp : bx.Perm bx') : Held w G M bx' L W := ⟨h.bl, h.mb, h.gm, fun x hx => h.bs x (hp.mem_iff.2 hx), (hp.map _).nodup_iff.1 h.nd, h.all⟩
theorem HRow.perm {bx' : List Box} {e : TypeId} {size n : Nat} {v : Value} {xs : List Value} (h : HRow w G M bx L e size v n xs W) (hp : bx.Perm bx') : HRow w G M bx' L e size v n xs W := ⟨h.h.perm hp, h.ok.sub fun _x hx => hp.mem_iff.2 hx, h.own⟩
/-- A block that came to be since W is one of the call's boxes. -/
theorem Held.adopt {g : Nat} {t : TypeId} {cs : Array Value} (h : Held w G M bx L W) (hb : Below W.heap.size W W') (hg : W.heap.size ≤ g) (hB : Blk W' g t cs) : Held w G (g :: M) ((g, t, cs) :: bx) L W' := by
  have h' := h.below hb
  refine ⟨h'.bl, fun k hk => ?_, fun k hk => .tail _ (h.gm k hk), fun x hx => ?_, ?_, fun P hP => ⟨(h.all P hP).1, ?_⟩⟩
  · rcases List.mem_cons.1 hk with rfl | hk
    · exact hB.lt
    · exact h'.mb k hk
  · rcases List.mem_cons.1 hx with rfl | hx
    · exact ⟨.head _, Nat.le_trans h.bl.size hg, hB⟩
    · exact ⟨.tail _ (h'.bs x hx).1, (h'.bs x hx).2⟩
  · rw [List.map_cons, List.nodup_cons]
    refine ⟨fun hm => ?_, h.nd⟩
    obtain ⟨x, hx, he⟩ := List.mem_map.1 hm
    have := (h.bs x hx).2.2.lt
    simp only at he
    omega
  · refine (h.all P hP).1.1 _ _ _ ((h.all P hP).1.2 M _ _ (h.all P hP).2 fun k hk => ?_) (Chg.of_below hb)
    rcases List.mem_cons.1 hk with rfl | hk
    · exact .inr hg
    · exact .inl hk
theorem HRow.adopt {g : Nat} {t : TypeId} {cs : Array Value} {e : TypeId} {size n : Nat} {v : Value} {xs : List Value} (h : HRow w G M bx L e size v n xs W) (hb : Below W.heap.size W W') (hg : W.heap.size ≤ g) (hB : Blk W' g t cs) : HRow w G (g :: M) ((g, t, cs) :: bx) L e size v n xs W' := by
  refine ⟨h.h.adopt hb hg hB, fun k hk => ⟨.tail _ (h.ok k hk).1, (h.ok k hk).2.1, fun x hx => ?_⟩, owns_below h.own hb⟩
  rcases List.mem_cons.1 hx with rfl | hx
  · intro he
    rcases h.own.2 with ⟨rfl, _⟩ | ⟨g', cap, cur, rfl, _, hh, _⟩
    · simp [Value.ownBlock] at hk
    · simp only [Value.ownBlock, Option.some.injEq] at hk
      subst hk
      simp only at he
      rw [Array.getElem?_eq_none (by omega)] at hh; cases hh
  · exact (h.ok k hk).2.2 x hx
theorem Bld.below (h : Bld w G M bx L b l W) (hb : Below W.heap.size W W') : Bld w G M bx L b l W' := by
  obtain ⟨p, v, hp, h⟩ := h.it
  exact ⟨⟨p, v, hp, h.below hb⟩⟩
theorem Bld.adopt {g : Nat} {t : TypeId} {cs : Array Value} (h : Bld w G M bx L b l W) (hb : Below W.heap.size W W') (hg : W.heap.size ≤ g) (hB : Blk W' g t cs) : Bld w G (g :: M) ((g, t, cs) :: bx) L b l W' := by
  obtain ⟨p, v, hp, h⟩ := h.it
  exact ⟨⟨p, v, hp, (h.adopt hb hg hB).perm (.swap _ _ _)⟩⟩
theorem Bld.newBox (h : Bld w G M bx L b l W) (cs : Array Value) (t : TypeId) {N : Nat} (hN : W.heap.size = N) : Bld w G (N :: M) ((N, t, cs) :: bx) L b l (W.alloc (.cells cs t)) :=
  h.adopt ((Below.refl _ _).alloc (Nat.le_refl _) _) (Nat.le_of_eq hN) (by subst hN; exact Blk.new _ _ _)
theorem Bld.box {x : Box} (h : Bld w G M bx L b l W) (hx : x ∈ bx) : Blk W x.1 x.2.1 x.2.2 := by
  obtain ⟨p, v, hp, h⟩ := h.it
  exact h.h.box (.tail _ hx)
theorem Bld.fact {P : List Nat → World → Prop} (h : Bld w G M bx L b l W) (hP : P ∈ L) : P M W := by
  obtain ⟨p, v, hp, h⟩ := h.it
  exact h.h.fact hP
theorem Bld.bl (h : Bld w G M bx L b l W) : Below w.heap.size w W := by
  obtain ⟨p, v, hp, h⟩ := h.it
  exact h.h.bl
theorem Bld.rest {x : Box} (h : Bld w G M (x :: bx) L b l W) : Bld w G M bx L b l W := by
  obtain ⟨p, v, hp, h⟩ := h.it
  exact ⟨⟨p, v, hp, (h.perm (.swap x _ _)).rest rfl⟩⟩
end
end Go.Proofs.YtmplaikgbeeikaaGreatDoor
namespace Go.Proofs.YtmplaikgbeeikaaGreatDoor
open Go Go.RowKit
theorem gPow : Tryz.prog.globalNamed "internal/strconv.uint64pow10" = some 5 := by kernel_rfl
/-- What the calls take of the library's variables. -/
structure TEnv (w : World) : Prop where
  tab : Lib.TabIs Tryz.prog w "internal/strconv.uint64pow10" .u64 Lib.pow10Tab
  sz : 5 < w.heap.size
theorem TEnv.below {w w' : World} {B : Nat} (h : TEnv w) (hb : Below B w w') (hB : 5 < B) : TEnv w' := by
  refine ⟨?_, by have := hb.size; have := h.sz; omega⟩
  have h1 := h.tab
  unfold Lib.TabIs at h1 ⊢
  exact var?_below hb gPow hB h1
theorem below_grow (w : World) (k : Nat) (os : Array Obj) : Below w.heap.size w (Go.Sort.grow (w.drewN k) os) :=
  (regrown_of_below (w := w) (Below.refl _ _)).elim fun _ _ => ⟨rfl, rfl, rfl, by simp [Go.Sort.grow, World.drewN], fun i hi => by simp [Go.Sort.grow, World.drewN, Array.getElem?_append, hi]⟩
theorem itoa_any (n : Int) (w : World) (h : inI n) (ht : TEnv w) :
    Calls Tryz.prog 134 #[.int .i64 n] w fun e w' => e = .returned (.string ⟨(Lib.itoa n).toArray⟩) ∧ Below w.heap.size w w' :=
  (Tryz.strconv_Itoa n h.1 h.2 w ht.tab).mono fun e w' ⟨he, k, os, hw⟩ => ⟨he, by rw [hw]; exact below_grow w k os⟩
theorem strLen (s : ByteArray) : s.data.toList.length = s.size := by simp
end Go.Proofs.YtmplaikgbeeikaaGreatDoor
namespace Go.Proofs.YtmplaikgbeeikaaGreatDoor
open Go Go.RowKit
theorem av_at {G : List Nat} {w : World} {A : Option Addr} {l : List Sx.Av} (h : SlAt G w A l) (k : Nat) (hk : k < l.length) : ∃ b o v, A = some ⟨b, o, none⟩ ∧ b ∉ G ∧ w.cell? ⟨b, o + k, none⟩ = some v ∧ Mem.rep G w l[k] [v] := by
  obtain ⟨b, o, us, hA, hg, hr, hc⟩ := h.get k hk
  have hlen := Mem.len hr
  obtain ⟨v, rfl⟩ : ∃ v, us = [v] := by
    cases us with
    | nil => cases hlen
    | cons v us => cases us with
      | nil => exact ⟨v, rfl⟩
      | cons _ _ => cases hlen
  refine ⟨b, o, v, hA, hg, ?_, hr⟩
  have := hc 0 _ rfl
  rw [show k * Mem.sz Sx.Av + 0 = k from Nat.mul_one k] at this
  exact this
theorem ta_nn (z : Int) (x : TypeId) (w : World) : (Instr.typeAssert (.iface 3 (.int .i64 z)) x 3 true).run Tryz.prog w = .ok (.tuple #[.int .i64 z, .bool true]) w := by kernel_rfl
theorem ta_sn (b : ByteArray) (x : TypeId) (w : World) : (Instr.typeAssert (.iface 9 (.string b)) x 3 true).run Tryz.prog w = .ok (.tuple #[.int .i64 0, .bool false]) w := by kernel_rfl
theorem ta_ss (b : ByteArray) (x : TypeId) (w : World) : (Instr.typeAssert (.iface 9 (.string b)) x 9 true).run Tryz.prog w = .ok (.tuple #[.string b, .bool true]) w := by kernel_rfl
set_option maxRecDepth 100000 in
set_option maxHeartbeats 4000000 in
theorem line_any (ws : ByteArray) (l : List Sx.Av) (A : Option Addr) (c : Nat) (w : World) (hl : SlAt [] w A l) (hok : ∀ a ∈ l, a.ok) (hm : l.length ≤ 1000000) (hws : ws.size ≤ 1000) (he : TEnv w) :
    Calls Tryz.prog 104 #[.string ws, .slice A l.length c] w fun e w' => e = .returned (.string ⟨(Sx.lineT (Sx.bs ws :: l.map Sx.Av.t)).toArray⟩) ∧ Below w.heap.size w w' := by
  rw [← Sx.lineP_end]
  obtain ⟨n, hn⟩ : ∃ n, l.length = n := ⟨_, rfl⟩
  have HENV := Lib.hid he
  have HN := Lib.hid hn; have HO := Lib.hid hok
  have HW := Lib.hid (show (Sx.bs ws).length ≤ 1000 by rw [show (Sx.bs ws).length = ws.size from strLen ws]; exact hws)
  have T0 := Lib.hid ((held0 w [] (fun _ h => by cases h)).add (keeps_sl A l) hl)
  rw [hn] at hm ⊢
  clear hl hn hok he
  go_enter Tryz.func104, Tryz.ntmps104
  go_upto_region 2 with fail
  have T := Lib.hid (Bld.new T0.out)
  obtain ⟨Nb, hNb⟩ : ∃ N, w.heap.size = N := ⟨_, rfl⟩
  rw [hNb] at T ⊢
  clear hNb T0
  go_wp2_with (go_at_call 103; ((with_reducible refine (writeString_any ws T.out (by simp; omega)).mono ?_)); rintro e w8 ⟨rfl, M8, hT8, _⟩; replace T := Lib.hid hT8; clear hT8)
  rw [List.nil_append] at T
  go_loopg [14] n (fun r i wr => ∃ (k : Nat) (M : List Nat), k + r = n ∧ i = .int .i64 k ∧ Bld w [] M [] [fun M W => SlAt M W A l] Nb (Sx.lineP (Sx.bs ws) (l.take k)) wr)
  case atStart => exact ⟨0, _, by omega, rfl, by rw [List.take_zero, Sx.lineP_nil]; exact T.out⟩
  case round =>
    obtain ⟨k, M, hk, rfl, hb⟩ := hrel
    obtain ⟨wo, rfl⟩ : ∃ wo : World, wo = wr := ⟨_, rfl⟩
    replace T := Lib.hid hb
    clear hb
    have HLP := Lib.hid (show (Sx.lineP (Sx.bs ws) (l.take k)).length ≤ 1000 + 101 * k by
      have h1 := Sx.lineP_le (Sx.bs ws) (l := l.take k) fun a ha => HO.out a (List.mem_of_mem_take ha)
      have h2 := HW.out
      rw [List.length_take] at h1
      have : min k l.length ≤ k := Nat.min_le_left _ _
      omega)
    by_cases hlt : k < n
    · have hkp : k < l.length := by rw [HN.out]; exact hlt
      have k0 : (0 : Int) ≤ (k : Int) := Int.natCast_nonneg _
      have k1 : (k : Int) < (n : Int) := by omega
      obtain ⟨b, o, v, rfl, _, c0, hr⟩ := av_at (T.out.fact (.head _)) k hkp
      have HS := Lib.hid (show Sx.lineP (Sx.bs ws) (l.take k) ++ [32] ++ (l[k]).t = Sx.lineP (Sx.bs ws) (l.take (k + 1)) by rw [take_snoc' l k hkp]; exact Sx.lineP_snoc _ _ _)
      have ha := HO.out _ (List.getElem_mem hkp)
      generalize l[k] = a at hr ha HS
      obtain ⟨acc, hacc⟩ : ∃ s, Sx.lineP (Sx.bs ws) (l.take k) = s := ⟨_, rfl⟩
      rw [hacc] at HLP HS T
      have hal : acc.length ≤ 1000 + 101 * k := HLP.out
      clear hacc HLP
      have CB := Lib.hid (show Calls Tryz.prog 133 #[.pointer (some ⟨Nb, 0, none⟩), .int .u8 32] _ _ from writeByte_any 32 T.out (by omega))
      cases a with
      | n z =>
        obtain ⟨hv, hz⟩ := hr
        injection hv with hv _
        subst hv
        have CD := Lib.hid (fun W (hb : Below w.heap.size w W) => itoa_any z W hz (HENV.out.below hb HENV.out.sz))
        have hil := Dc.itoa_len z ha
        obtain ⟨d, hd⟩ : ∃ d : ByteArray, (⟨(Lib.itoa z).toArray⟩ : ByteArray) = d := ⟨_, rfl⟩
        rw [hd] at CD
        have hds : d.size ≤ 11 := by rw [← hd]; exact hil
        have HD := Lib.hid (show d.data.toList = (Sx.Av.n z).t by rw [← hd]; rfl)
        have tn := ta_nn z
        clear ha hz hil hd
        go_wp2_with (first | (go_at_call 133; ((with_reducible refine (CB.out).mono ?_)); rintro e w8 ⟨rfl, M8, hT8, _⟩; replace T := Lib.hid hT8; clear hT8 c0) | (go_at_call 134; ((with_reducible refine (CD.out _ T.out.bl).mono ?_)); rintro e w7 ⟨rfl, hb7⟩; replace T := Lib.hid (T.out.below hb7); clear hb7) | (go_at_call 103; ((with_reducible refine (writeString_any d T.out (by rw [List.length_append, List.length_singleton]; omega)).mono ?_)); rintro e w9 ⟨rfl, M9, hT9, _⟩; replace T := Lib.hid hT9; clear hT9))
        rw [HD.out, HS.out] at T
        go_roundg (gk - 1)
        case measure => omega
        case rel => exact ⟨k + 1, _, by omega, by go_num, T.out⟩
      | s d =>
        obtain ⟨hv, hz⟩ := hr
        injection hv with hv _
        subst hv
        have hds : d.size ≤ 100 := ha
        have HD := Lib.hid (show d.data.toList = (Sx.Av.s d).t from rfl)
        have tn := ta_sn d
        have ts := ta_ss d
        clear ha hz
        go_wp2_with (first | (go_at_call 133; ((with_reducible refine (CB.out).mono ?_)); rintro e w8 ⟨rfl, M8, hT8, _⟩; replace T := Lib.hid hT8; clear hT8 c0) | (go_at_call 103; ((with_reducible refine (writeString_any d T.out (by rw [List.length_append, List.length_singleton]; omega)).mono ?_)); rintro e w9 ⟨rfl, M9, hT9, _⟩; replace T := Lib.hid hT9; clear hT9))
        rw [HD.out, HS.out] at T
        go_roundg (gk - 1)
        case measure => omega
        case rel => exact ⟨k + 1, _, by omega, by go_num, T.out⟩
    · have k1 : ¬ (k : Int) < (n : Int) := by omega
      rw [List.take_of_length_le (by rw [HN.out]; omega)] at T
      rw [List.take_of_length_le (by rw [HN.out]; omega)] at HLP
      have hsz : (Sx.lineP (Sx.bs ws) l).length ≤ 1000 + 101 * k := HLP.out
      have CS := Lib.hid (bldString_any T.out)
      obtain ⟨d, hd⟩ : ∃ d : ByteArray, (⟨(Sx.lineP (Sx.bs ws) l).toArray⟩ : ByteArray) = d := ⟨_, rfl⟩
      rw [hd] at CS
      have hds : d.size + (⟨#[10]⟩ : ByteArray).size ≤ 9223372036854775807 := by
        rw [← hd]; show (Sx.lineP (Sx.bs ws) l).toArray.size + 1 ≤ _
        rw [List.size_toArray]; omega
      have HD := Lib.hid hd
      clear hd hsz
      go_wp2_with (go_at_call 107; ((with_reducible refine (CS.out).mono ?_)); rintro e w8 ⟨rfl, hb8⟩; have HB := Lib.hid (T.out.bl.trans hb8); clear hb8)
      go_ret
      exact ⟨by rw [← HD.out, str_eq (a := _ ++ _) rfl]; simp, HB.out⟩
end Go.Proofs.YtmplaikgbeeikaaGreatDoor
namespace Go.Proofs.YtmplaikgbeeikaaGreatDoor
open Go Go.RowKit
namespace Vm
theorem tw_is (p : UInt8 → Bool) (l : List UInt8) : ∀ (n a e : Nat), e - a = n → a ≤ e → e ≤ l.length → (∀ j (hj : j < l.length), a ≤ j → j < e → p l[j] = true) → (e = l.length ∨ ∃ h : e < l.length, p l[e] = false) → ((l.drop a).takeWhile p).length = e - a
  | 0, a, e, hn, hae, he, _, hs => by
    obtain rfl : a = e := by omega
    rcases hs with rfl | ⟨h, hp⟩
    · simp
    · rw [List.drop_eq_getElem_cons h, List.takeWhile_cons, hp]; simp
  | n + 1, a, e, hn, hae, he, hall, hs => by
    have ha : a < l.length := by omega
    rw [List.drop_eq_getElem_cons ha, List.takeWhile_cons, hall a ha (Nat.le_refl _) (by omega), if_pos rfl, List.length_cons, tw_is p l n (a + 1) e (by omega) (by omega) he (fun j hj h1 h2 => hall j hj (by omega) h2) hs]
    omega
theorem skipN_is {l : List UInt8} {a e : Nat} (hae : a ≤ e) (he : e ≤ l.length) (h : ∀ j (hj : j < l.length), a ≤ j → j < e → isBlank l[j] = true) (hs : e = l.length ∨ ∃ h : e < l.length, isBlank l[e] = false) : skipN l a = e := by
  unfold skipN; rw [tw_is isBlank l _ a e rfl hae he h hs]; omega
theorem wordAt_is {l : List UInt8} {a e : Nat} (hae : a ≤ e) (he : e ≤ l.length) (h : ∀ j (hj : j < l.length), a ≤ j → j < e → isTok l[j] = true) (hs : e = l.length ∨ ∃ h : e < l.length, isTok l[e] = false) : wordAt l a = (l.drop a).take (e - a) := by
  have h1 := tw_is isTok l _ a e rfl hae he h hs
  unfold wordAt
  rw [← take_takeWhile, h1]
theorem str_get (s : ByteArray) (k : Nat) (_h : k < s.size) (h' : k < s.data.toList.length) : s.data.toList[k] = s[k] := by rw [Array.getElem_toList]; rfl
theorem strLn (s : ByteArray) : s.data.toList.length = s.size := by simp
theorem blank_cases (c : UInt8) : (isBlank c = true ∧ ((c.toNat : Int) == 32) = true) ∨ (isBlank c = true ∧ ((c.toNat : Int) == 32) = false ∧ ((c.toNat : Int) == 10) = true) ∨ (isBlank c = false ∧ ((c.toNat : Int) == 32) = false ∧ ((c.toNat : Int) == 10) = false) := by
  have key : ∀ n : UInt8, ((c.toNat : Int) == (n.toNat : Int)) = (c == n) := by
    intro n
    rw [Bool.eq_iff_iff, beq_iff_eq, beq_iff_eq]
    exact ⟨fun h => UInt8.toNat_inj.1 (by omega), fun h => by rw [h]⟩
  have k1 := key 32
  have k2 := key 10
  rw [show ((32 : UInt8).toNat : Int) = 32 from rfl] at k1
  rw [show ((10 : UInt8).toNat : Int) = 10 from rfl] at k2
  unfold isBlank
  rw [k1, k2]
  cases c == 32 <;> cases c == 10 <;> simp
end Vm
end Go.Proofs.YtmplaikgbeeikaaGreatDoor
namespace Go.Proofs.YtmplaikgbeeikaaGreatDoor
open Go Go.RowKit
theorem w_drew (w : World) (n : Nat) : Below w.heap.size w (w.drewN n) := ⟨rfl, rfl, rfl, Nat.le_refl _, fun _ _ => rfl⟩
end Go.Proofs.YtmplaikgbeeikaaGreatDoor
namespace Go.Proofs.YtmplaikgbeeikaaGreatDoor
open Go Go.RowKit
theorem parse_digs : ∀ (l : List UInt8) (a : Nat), l.all Dc.isDig = true → (a + 1) * 10 ^ l.length ≤ 1000000000000000000 → Lib.parseUint10 a l = .ok (l.foldl (fun a c => 10 * a + (c.toNat - 48)) a)
  | [], a, _, _ => rfl
  | c :: l, a, h, hb => by
    rw [List.all_cons, Bool.and_eq_true] at h
    have hc := h.1
    simp only [Dc.isDig, Bool.and_eq_true, decide_eq_true_eq] at hc
    rw [List.length_cons, Nat.pow_succ] at hb
    have hp : 1 ≤ 10 ^ l.length := Nat.pow_pos (by omega)
    have hb2 : (a + 1) * 10 * 10 ^ l.length ≤ 1000000000000000000 := by rw [Nat.mul_assoc, Nat.mul_comm 10]; exact hb
    have ha : (a + 1) * 10 ≤ 1000000000000000000 := Nat.le_trans (Nat.le_mul_of_pos_right _ hp) hb2
    unfold Lib.parseUint10
    rw [if_pos ⟨hc.1, hc.2⟩, if_neg (by omega), if_neg (by omega), List.foldl_cons, Nat.mul_comm a 10]
    refine parse_digs l _ h.2 (Nat.le_trans (Nat.mul_le_mul_right _ ?_) hb2)
    omega
theorem trim_is (w : List UInt8) : Lib.trimPrefix w [45] = Vm.digs w := by
  unfold Lib.trimPrefix Lib.hasPrefix Vm.digs Vm.neg
  cases w with
  | nil => rfl
  | cons c r =>
    simp only [List.isPrefixOf, Bool.and_true, List.head?_cons]
    have e : ((45 : UInt8) == c) = (some c == some (45 : UInt8)) := by rw [Bool.eq_iff_iff]; simp; exact eq_comm
    rw [e]
    by_cases hc : (some c == some (45 : UInt8)) = true <;> simp [hc]
theorem below_atoi {w w' : World} {e : TypeId} (h : w' = w ∨ ∃ t, w' = Lib.bytesWorld w e t) : Below w.heap.size w w' := by
  rcases h with rfl | ⟨t, rfl⟩
  · exact Below.refl _ _
  · exact Lib.below_freeze (((Below.refl _ _).drew).alloc (Nat.le_refl _) _) (p := ⟨w.heap.size, _, none⟩) (Nat.le_refl _) _
end Go.Proofs.YtmplaikgbeeikaaGreatDoor
namespace Go.Proofs.YtmplaikgbeeikaaGreatDoor
open Go Go.RowKit
theorem strEq_true (s : ByteArray) : (s.toList == s.toList) = true := by simp
theorem strEq_false {s t : ByteArray} (h : s ≠ t) : (s.toList == t.toList) = false := by
  rw [beq_eq_false_iff_ne]; intro e; apply h
  rw [ByteArray.toList_eq, ByteArray.toList_eq] at e
  obtain ⟨⟨a⟩⟩ := s; obtain ⟨⟨b⟩⟩ := t; simpa using e
end Go.Proofs.YtmplaikgbeeikaaGreatDoor
namespace Go.Proofs.YtmplaikgbeeikaaGreatDoor
open Go Go.RowKit
theorem within_any (n a b : Int) (w : World) : Calls Tryz.prog 52 #[.int .i64 n, .int .i64 a, .int .i64 b] w fun e w' => e = .returned (.bool (Sx.within n a b)) ∧ w = w' := by
  unfold Sx.within
  go_enter Tryz.func52, Tryz.ntmps52
  obtain ⟨b1, h1⟩ : ∃ c, decide (a ≤ n) = c := ⟨_, rfl⟩
  obtain ⟨b2, h2⟩ : ∃ c, decide (n ≤ b) = c := ⟨_, rfl⟩
  rw [h1, h2]
  cases b1 <;> cases b2 <;> (go_wp2; go_ret; exact ⟨rfl, rfl⟩)
theorem span_any (lo hi a b : Int) (w : World) : Calls Tryz.prog 111 #[.int .i64 lo, .int .i64 hi, .int .i64 a, .int .i64 b] w fun e w' => e = .returned (.bool (Sx.span lo hi a b)) ∧ w = w' := by
  unfold Sx.span
  go_enter Tryz.func111, Tryz.ntmps111
  obtain ⟨b1, h1⟩ : ∃ c, decide (a ≤ lo) = c := ⟨_, rfl⟩
  obtain ⟨b2, h2⟩ : ∃ c, decide (lo ≤ hi) = c := ⟨_, rfl⟩
  obtain ⟨b3, h3⟩ : ∃ c, decide (hi ≤ b) = c := ⟨_, rfl⟩
  rw [h1, h2, h3]
  cases b1 <;> cases b2 <;> cases b3 <;> (go_wp2; go_ret; exact ⟨rfl, rfl⟩)
theorem le_cast (a b : Nat) : decide ((a : Int) ≤ (b : Int)) = decide (a ≤ b) := by simp
theorem letter_any (c : UInt8) (w : World) : Calls Tryz.prog 137 #[.int .u8 c.toNat] w fun e w' => e = .returned (.bool (Sx.letterB c)) ∧ w = w' := by
  unfold Sx.letterB
  go_enter Tryz.func137, Tryz.ntmps137
  obtain ⟨b1, h1⟩ : ∃ x, decide (97 ≤ c.toNat) = x := ⟨_, rfl⟩
  obtain ⟨b2, h2⟩ : ∃ x, decide (c.toNat ≤ 122) = x := ⟨_, rfl⟩
  rw [h1, h2]
  have h1' : decide ((97 : Int) ≤ (c.toNat : Int)) = b1 := by rw [← h1]; exact le_cast 97 _
  have h2' : decide ((c.toNat : Int) ≤ (122 : Int)) = b2 := by rw [← h2]; exact le_cast _ 122
  clear h1 h2
  cases b1 <;> cases b2 <;> (go_wp2; go_ret; exact ⟨rfl, rfl⟩)
theorem isDig_is (c : UInt8) : Dc.isDig c = (decide (48 ≤ c.toNat) && decide (c.toNat ≤ 57)) := by unfold Dc.isDig; rfl
theorem digit_any (c : UInt8) (w : World) : Calls Tryz.prog 140 #[.int .u8 c.toNat] w fun e w' => e = .returned (.bool (Dc.isDig c)) ∧ w = w' := by
  rw [isDig_is]
  go_enter Tryz.func140, Tryz.ntmps140
  obtain ⟨b1, h1⟩ : ∃ x, decide (48 ≤ c.toNat) = x := ⟨_, rfl⟩
  obtain ⟨b2, h2⟩ : ∃ x, decide (c.toNat ≤ 57) = x := ⟨_, rfl⟩
  rw [h1, h2]
  have h1' : decide ((48 : Int) ≤ (c.toNat : Int)) = b1 := by rw [← h1]; exact le_cast 48 _
  have h2' : decide ((c.toNat : Int) ≤ (57 : Int)) = b2 := by rw [← h2]; exact le_cast _ 57
  clear h1 h2
  cases b1 <;> cases b2 <;> (go_wp2; go_ret; exact ⟨rfl, rfl⟩)
theorem name1_any (c : UInt8) (w : World) : Calls Tryz.prog 139 #[.int .u8 c.toNat] w fun e w' => e = .returned (.bool (!Sx.alnumB c)) ∧ w = w' := by
  unfold Sx.alnumB
  have CL := Lib.hid (letter_any c)
  have CD := Lib.hid (digit_any c)
  generalize Sx.letterB c = b1 at *
  generalize Dc.isDig c = b2 at *
  generalize c.toNat = n at *
  go_enter Tryz.func139, Tryz.ntmps139
  cases b1 <;> cases b2 <;> (go_wp2_with (first | (go_at_call 137; ((with_reducible refine (CL.out _).mono ?_)); rintro e w2 ⟨rfl, rfl⟩) | (go_at_call 140; ((with_reducible refine (CD.out _).mono ?_)); rintro e w2 ⟨rfl, rfl⟩)); go_ret; exact ⟨rfl, rfl⟩)
end Go.Proofs.YtmplaikgbeeikaaGreatDoor
namespace Go.Proofs.YtmplaikgbeeikaaGreatDoor
open Go Go.RowKit
/-- A search: whether an element was found. -/
def PredP (r : Bool) (W : World) (e : Ending) (W' : World) : Prop := ∃ i : Int, e = .returned (.int .i64 i) ∧ decide (0 ≤ i) = r ∧ Below W.heap.size W W'
def BoolP (r : Bool) (W : World) (e : Ending) (W' : World) : Prop := e = .returned (.bool r) ∧ Below W.heap.size W W'
theorem all_bad {α : Type} {b : α → Bool} {l : List α} {k : Nat} (hk : k < l.length) (h : b l[k] = false) : l.all b = false := by
  cases hb : l.all b with
  | false => rfl
  | true => rw [List.all_eq_true.1 hb _ (List.getElem_mem hk)] at h; cases h
theorem all_good {α : Type} {b : α → Bool} {l : List α} (h : ∀ k (hk : k < l.length), b l[k] = true) : l.all b = true :=
  List.all_eq_true.2 fun y hy => by obtain ⟨k, hk, rfl⟩ := List.getElem_of_mem hy; exact h k hk
set_option maxRecDepth 100000 in
set_option maxHeartbeats 4000000 in
theorem idxB_any (l : List UInt8) (A : Option Addr) (c : Nat) (W : World) (hs : SlAt [] W A l) (hm : l.length ≤ 9223372036854775807) :
    Calls Tryz.prog 168 #[.slice A l.length c, .func (.func 139) #[] #[]] W (PredP (!l.all Sx.alnumB) W) := by
  obtain ⟨n, hn⟩ : ∃ n, l.length = n := ⟨_, rfl⟩
  have HS := Lib.hid hs
  have HN := Lib.hid hn
  rw [hn]
  rw [hn] at hm
  have HV := Lib.hid name1_any
  clear hs hn
  go_enter Tryz.func168, Tryz.ntmps168
  go_wp2_with fail
  go_loopg [8] n (fun r i wr => ∃ k : Nat, k + r = n ∧ i = .int .i64 k ∧ Below W.heap.size W wr ∧ ∀ j (hj : j < l.length), j < k → Sx.alnumB l[j] = true)
  case atStart => exact ⟨0, by omega, rfl, Below.refl _ _, fun _ _ h => by omega⟩
  case round =>
    obtain ⟨k, hk, rfl, hb, hall⟩ := hrel
    obtain ⟨wo, rfl⟩ : ∃ wo : World, wo = wr := ⟨_, rfl⟩
    have HB := Lib.hid hb
    have HA := Lib.hid hall
    clear hb hall
    by_cases hlt : k < n
    · have hkp : k < l.length := by rw [HN.out]; exact hlt
      have k0 : (0 : Int) ≤ (k : Int) := Int.natCast_nonneg _
      have k1 : (k : Int) < (n : Int) := by omega
      obtain ⟨b, o, rfl, _, c0⟩ := byte_at (HS.out.keep (Chg.of_below HB.out)) k hkp
      have cv := HV.out l[k]
      obtain ⟨bb, hbb⟩ : ∃ b, Sx.alnumB l[k] = b := ⟨_, rfl⟩
      rw [hbb] at cv
      have CV := Lib.hid cv
      have HBB := Lib.hid hbb
      generalize l[k].toNat = x0 at *
      clear cv hbb
      cases bb
      · have HR := Lib.hid (all_bad (b := Sx.alnumB) hkp HBB.out)
        go_wp2_with (go_at_call 139; ((with_reducible refine (CV.out _).mono ?_)); rintro e w2 ⟨rfl, rfl⟩)
        go_ret
        exact ⟨_, rfl, by rw [HR.out]; simp, HB.out⟩
      · go_wp2_with (go_at_call 139; ((with_reducible refine (CV.out _).mono ?_)); rintro e w2 ⟨rfl, rfl⟩)
        go_roundg (gk - 1)
        case measure => omega
        case rel =>
          refine ⟨k + 1, by omega, by go_num, HB.out, fun q hq hlt => ?_⟩
          rcases Nat.lt_or_ge q k with h' | h'
          · exact HA.out q hq h'
          · obtain rfl : q = k := by omega
            exact HBB.out
    · have HR := Lib.hid (all_good (b := Sx.alnumB) fun q hq => HA.out q hq (by rw [HN.out] at hq; omega))
      have k1 : ¬ (k : Int) < (n : Int) := by omega
      go_wp2_with fail
      go_ret
      exact ⟨_, rfl, by rw [HR.out]; rfl, HB.out⟩
set_option maxHeartbeats 1000000 in
theorem conB_any (l : List UInt8) (A : Option Addr) (c : Nat) (W : World) (hs : SlAt [] W A l) (hm : l.length ≤ 9223372036854775807) :
    Calls Tryz.prog 138 #[.slice A l.length c, .func (.func 139) #[] #[]] W (BoolP (!l.all Sx.alnumB) W) := by
  have CI := Lib.hid (idxB_any l A c W hs hm)
  obtain ⟨n, hn⟩ : ∃ n, l.length = n := ⟨_, rfl⟩
  rw [hn] at CI ⊢
  clear hs hm hn
  generalize Value.func (.func 139) #[] #[] = F at *
  go_enter Tryz.func138, Tryz.ntmps138
  go_wp2_with (go_at_call 168; ((with_reducible refine (CI.out).mono ?_)); rintro e w2 ⟨r, rfl, hr, hb2⟩; have HB := Lib.hid hb2; have HR := Lib.hid hr; clear hb2 hr)
  go_ret
  exact ⟨by rw [← HR.out]; rfl, HB.out⟩
theorem nm_is (s : ByteArray) : Sx.nm s = ((decide (1 ≤ s.size) && decide (s.size ≤ 12)) && (Sx.letterB (s.data.toList.headD 0) && s.data.toList.all Sx.alnumB)) := by
  unfold Sx.nm Sx.nameB
  rw [Vm.strLn]
  cases decide (1 ≤ s.size) <;> cases decide (s.size ≤ 12) <;> simp
theorem within_nat (n : Nat) : Sx.within (n : Int) 1 12 = (decide (1 ≤ n) && decide (n ≤ 12)) := by
  unfold Sx.within
  rw [show decide ((1 : Int) ≤ (n : Int)) = decide (1 ≤ n) from le_cast 1 n, show decide ((n : Int) ≤ 12) = decide (n ≤ 12) from le_cast n 12]
set_option maxRecDepth 100000 in
set_option maxHeartbeats 4000000 in
theorem isName_any (s : ByteArray) (w : World) (hs : s.size ≤ 9223372036854775807) : Calls Tryz.prog 110 #[.string s] w (BoolP (Sx.nm s) w) := by
  rw [nm_is, ← within_nat]
  have HW := Lib.hid within_any
  have HL := Lib.hid letter_any
  have HCon := Lib.hid conB_any
  have HTS := Lib.hid hs
  clear hs
  obtain ⟨bw, hbw⟩ : ∃ b, Sx.within (s.size : Int) 1 12 = b := ⟨_, rfl⟩
  rw [hbw]
  have cw := HW.out (s.size : Int) 1 12
  rw [hbw] at cw
  have CW := Lib.hid cw
  clear cw
  cases bw
  · clear hbw
    go_enter Tryz.func110, Tryz.ntmps110
    go_wp2_with (go_at_call 52; ((with_reducible refine (CW.out _).mono ?_)); rintro e w2 ⟨rfl, rfl⟩)
    go_ret
    exact ⟨rfl, Below.refl _ _⟩
  · have h1 : 1 ≤ s.size := by
      rw [within_nat] at hbw
      have := (Bool.and_eq_true_iff.1 hbw).1
      exact of_decide_eq_true this
    have hne : 0 < s.data.toList.length := by rw [Vm.strLn]; exact h1
    have h0 : s.data.toList.headD 0 = (s[0]'h1) := by
      rw [← Vm.str_get s 0 h1 hne]
      rw [List.headD_eq_head?_getD, List.head?_eq_getElem?, List.getElem?_eq_getElem hne]
      rfl
    rw [h0]
    have cl := HL.out (s[0]'h1)
    obtain ⟨bl, hbl⟩ : ∃ b, Sx.letterB (s[0]'h1) = b := ⟨_, rfl⟩
    rw [hbl] at cl ⊢
    have CL := Lib.hid cl
    have h1' : (0 : Int) < (s.size : Int) := by omega
    clear cl hbl hbw h0 hne
    cases bl
    · go_enter Tryz.func110, Tryz.ntmps110
      go_wp2_with (first | (go_at_call 52; ((with_reducible refine (CW.out _).mono ?_)); rintro e w2 ⟨rfl, rfl⟩) | (go_at_call 137; ((with_reducible refine (CL.out _).mono ?_)); rintro e w2 ⟨rfl, rfl⟩))
      go_ret
      exact ⟨rfl, Below.refl _ _⟩
    · have hcv := run_bytes_of_string (P := Tryz.prog) w 9 73 5 s Tryz.underlying9 Tryz.underlying73 Tryz.underlying5
      obtain ⟨cap, hcap⟩ : ∃ c, grownCap w s.size 0 5 = c := ⟨_, rfl⟩
      rw [hcap] at hcv
      obtain ⟨W4, hW4⟩ : ∃ X, (w.alloc (.cells (bytesRow s cap) 5 ((bytesRow s cap).size, (bytesRow s cap).size + 1))).drew = X := ⟨_, rfl⟩
      have hB4 : Below w.heap.size w W4 := by
        rw [← hW4]
        exact ((Below.refl w.heap.size w).alloc (Nat.le_refl _) _).trans ⟨rfl, rfl, rfl, Nat.le_refl _, fun _ _ => rfl⟩
      have hs4 : SlAt [] W4 (some ⟨w.heap.size, 0, none⟩) s.data.toList := by
        refine SlAt.of_cells (flat_bytes _) (by rw [← hW4]; show w.heap.size < (w.heap.push _).size; rw [Array.size_push]; omega) (List.not_mem_nil) fun j u hu => ?_
        unfold byteVals at hu
        rw [List.getElem?_map] at hu
        obtain ⟨hj, hju⟩ : ∃ hj : j < s.data.size, u = .int .u8 (s.data[j].toNat : Int) := by
          rcases Nat.lt_or_ge j s.data.size with hj | hj
          · refine ⟨hj, ?_⟩
            rw [List.getElem?_eq_getElem (by simpa using hj)] at hu
            simpa using hu.symm
          · rw [List.getElem?_eq_none (by simpa using hj)] at hu; cases hu
        rw [hju, ← hW4]
        exact (cell_of_row _ w.heap.size j _ 5 _ (heap_alloc_new w _)).trans (bytesRow_at s cap j hj)
      have cc := HCon.out s.data.toList (some ⟨w.heap.size, 0, none⟩) cap W4 hs4 (by rw [Vm.strLn]; exact HTS.out)
      rw [Vm.strLn] at cc
      obtain ⟨r, hr⟩ : ∃ r, s.data.toList.all Sx.alnumB = r := ⟨_, rfl⟩
      rw [hr] at cc ⊢
      clear hr
      have CC := Lib.hid cc
      have HB4 := Lib.hid hB4
      have HW4 := Lib.hid hW4
      clear cc hs4 hB4 hW4 hcap
      go_enter Tryz.func110, Tryz.ntmps110
      go_wp2_with (first | (go_at_call 52; ((with_reducible refine (CW.out _).mono ?_)); rintro e w2 ⟨rfl, rfl⟩) | (go_at_call 137; ((with_reducible refine (CL.out _).mono ?_)); rintro e w2 ⟨rfl, rfl⟩) | (go_at_call 138; rw [HW4.out]; ((with_reducible refine (CC.out).mono ?_)); rintro e w2 ⟨rfl, hb2⟩; have HB5 := Lib.hid (HB4.out.trans (hb2.mono HB4.out.size)); clear hb2))
      go_ret
      exact ⟨by cases r <;> rfl, HB5.out⟩
end Go.Proofs.YtmplaikgbeeikaaGreatDoor
namespace Go.Proofs.YtmplaikgbeeikaaGreatDoor
open Go Go.RowKit
def rtS : Value := .func (.func 110) #[] #[]
def oneS (g : Nat) : Value := .func (.func 147) #[] #[.pointer (some ⟨g, 0, none⟩)]
set_option maxRecDepth 100000 in
set_option maxHeartbeats 4000000 in
theorem oneS_any (x : ByteArray) (us : List Value) (g : Nat) (w : World) (hr : Mem.rep [] w x us) (hp : True) (hg : w.cell? ⟨g, 0, none⟩ = some rtS) :
    Calls Tryz.prog 147 #[us.headD .nilFunc, .pointer (some ⟨g, 0, none⟩)] w (BoolP (!Sx.nm x) w) := by
  obtain ⟨rfl, hsz⟩ := hr
  have hr0 : (True : Prop) := trivial
  show Calls Tryz.prog 147 #[.string x, .pointer (some ⟨g, 0, none⟩)] w (BoolP (!Sx.nm x) w)
  have hB1 := Below.refl w.heap.size w
  have hg1 := hg
  have hr9 := hr0
  have HC := Lib.hid (isName_any x w hsz)
  obtain ⟨r, hrr⟩ : ∃ r, Sx.nm x = r := ⟨_, rfl⟩
  rw [hrr] at HC ⊢
  have HB1 := Lib.hid hB1
  unfold rtS at hg1
  clear hrr hr0 hr9 hp hg hB1
  go_enter Tryz.func147, Tryz.ntmps147
  go_wp2_with (go_at_call 110; ((with_reducible refine (HC.out).mono ?_)); rintro e w2 ⟨rfl, hb2⟩; have HB := Lib.hid (HB1.out.trans (hb2.mono HB1.out.size)); clear hb2)
  go_ret
  exact ⟨by cases r <;> rfl, HB.out⟩
set_option maxRecDepth 100000 in
set_option maxHeartbeats 4000000 in
theorem idxS_any (l : List (ByteArray)) (A : Option Addr) (c g : Nat) (W : World) (hs : SlAt [] W A l) (hm : l.length ≤ 9223372036854775807) (hp : ∀ x ∈ l, True) (hg : W.cell? ⟨g, 0, none⟩ = some rtS) :
    Calls Tryz.prog 170 #[.slice A l.length c, oneS g] W (PredP (!l.all Sx.nm) W) := by
  obtain ⟨n, hn⟩ : ∃ n, l.length = n := ⟨_, rfl⟩
  have HS := Lib.hid hs
  have HN := Lib.hid hn
  have HP := Lib.hid hp
  have HG := Lib.hid hg
  rw [hn]
  rw [hn] at hm
  have HV := Lib.hid oneS_any
  unfold oneS
  clear hs hn hp hg
  go_enter Tryz.func170, Tryz.ntmps170
  go_wp2_with fail
  go_loopg [8] n (fun r i wr => ∃ k : Nat, k + r = n ∧ i = .int .i64 k ∧ Below W.heap.size W wr ∧ ∀ j (hj : j < l.length), j < k → Sx.nm l[j] = true)
  case atStart => exact ⟨0, by omega, rfl, Below.refl _ _, fun _ _ h => by omega⟩
  case round =>
    obtain ⟨k, hk, rfl, hb, hall⟩ := hrel
    obtain ⟨wo, rfl⟩ : ∃ wo : World, wo = wr := ⟨_, rfl⟩
    have HB := Lib.hid hb
    have HA := Lib.hid hall
    clear hb hall
    by_cases hlt : k < n
    · have hkp : k < l.length := by rw [HN.out]; exact hlt
      have k0 : (0 : Int) ≤ (k : Int) := Int.natCast_nonneg _
      have k1 : (k : Int) < (n : Int) := by omega
      obtain ⟨b, o, us, rfl, _, hr, hc⟩ := (HS.out.keep (Chg.of_below HB.out)).get k hkp
      have cv := HV.out l[k] us g wo hr (HP.out _ (List.getElem_mem hkp)) ((HB.out.cell (World.block_lt_of_cell? _ _ HG.out)).trans HG.out)
      obtain ⟨x, hx⟩ : ∃ x, l[k] = x := ⟨_, rfl⟩
      rw [hx] at cv hr
      obtain ⟨rfl, hsz⟩ := hr
      have hr0 : (True : Prop) := trivial
      change Calls Tryz.prog 147 #[.string x, .pointer (some ⟨g, 0, none⟩)] wo _ at cv
      have c0 : wo.cell? ⟨b, o + k, none⟩ = some (.string x) := by have := hc 0 _ rfl; rw [show k * Mem.sz (ByteArray) + 0 = k from Nat.mul_one k] at this; exact this
      obtain ⟨bb, hbb⟩ : ∃ b, Sx.nm x = b := ⟨_, rfl⟩
      rw [hbb] at cv
      have CV := Lib.hid cv
      have HX := Lib.hid hx
      have HBB := Lib.hid hbb
      clear cv hbb hr0 hc hx
      cases bb
      · have HR := Lib.hid (all_bad (b := Sx.nm) hkp (by rw [HX.out]; exact HBB.out))
        go_wp2_with (go_at_call 147; ((with_reducible refine (CV.out).mono ?_)); rintro e w2 ⟨rfl, hb2⟩; replace HB := Lib.hid (HB.out.trans (hb2.mono HB.out.size)); clear hb2)
        go_ret
        exact ⟨_, rfl, by rw [HR.out]; simp, HB.out⟩
      · go_wp2_with (go_at_call 147; ((with_reducible refine (CV.out).mono ?_)); rintro e w2 ⟨rfl, hb2⟩; replace HB := Lib.hid (HB.out.trans (hb2.mono HB.out.size)); clear hb2)
        go_roundg (gk - 1)
        case measure => omega
        case rel =>
          refine ⟨k + 1, by omega, by go_num, HB.out, fun q hq hlt => ?_⟩
          rcases Nat.lt_or_ge q k with h' | h'
          · exact HA.out q hq h'
          · obtain rfl : q = k := by omega
            rw [HX.out]; exact HBB.out
    · have HR := Lib.hid (all_good (b := Sx.nm) fun q hq => HA.out q hq (by rw [HN.out] at hq; omega))
      have k1 : ¬ (k : Int) < (n : Int) := by omega
      go_wp2_with fail
      go_ret
      exact ⟨_, rfl, by rw [HR.out]; rfl, HB.out⟩
set_option maxHeartbeats 1000000 in
theorem conS_any (l : List (ByteArray)) (A : Option Addr) (c g : Nat) (W : World) (hs : SlAt [] W A l) (hm : l.length ≤ 9223372036854775807) (hp : ∀ x ∈ l, True) (hg : W.cell? ⟨g, 0, none⟩ = some rtS) :
    Calls Tryz.prog 146 #[.slice A l.length c, oneS g] W (BoolP (!l.all Sx.nm) W) := by
  have CI := Lib.hid (idxS_any l A c g W hs hm hp hg)
  obtain ⟨n, hn⟩ : ∃ n, l.length = n := ⟨_, rfl⟩
  rw [hn] at CI ⊢
  clear hs hm hn hp hg
  generalize oneS g = F at *
  go_enter Tryz.func146, Tryz.ntmps146
  go_wp2_with (go_at_call 170; ((with_reducible refine (CI.out).mono ?_)); rintro e w2 ⟨r, rfl, hr, hb2⟩; have HB := Lib.hid hb2; have HR := Lib.hid hr; clear hb2 hr)
  go_ret
  exact ⟨by rw [← HR.out]; rfl, HB.out⟩
set_option maxHeartbeats 1000000 in
theorem allS_any (l : List (ByteArray)) (A : Option Addr) (c : Nat) (w : World) (hs : SlAt [] w A l) (hm : l.length ≤ 9223372036854775807) (hp : ∀ x ∈ l, True) :
    Calls Tryz.prog 116 #[.slice A l.length c, rtS] w (BoolP (l.all Sx.nm) w) := by
  have hB1 : Below w.heap.size w (w.alloc (.cells #[rtS] 83)) := (Below.refl w.heap.size w).alloc (Nat.le_refl _) _
  have CC := Lib.hid (conS_any l A c w.heap.size (w.alloc (.cells #[rtS] 83)) (hs.keep (Chg.of_below hB1)) hm hp (cell_box1 w _ _))
  obtain ⟨n, hn⟩ : ∃ n, l.length = n := ⟨_, rfl⟩
  rw [hn] at CC ⊢
  generalize l.all Sx.nm = r at *
  unfold rtS at CC hB1 ⊢
  unfold oneS at CC
  have HB1 := Lib.hid hB1
  clear hs hm hn hp hB1
  go_enter Tryz.func116, Tryz.ntmps116
  go_wp2_with (go_at_call 146; ((with_reducible refine (CC.out).mono ?_)); rintro e w2 ⟨rfl, hb2⟩; have HB := Lib.hid (HB1.out.trans (hb2.mono HB1.out.size)); clear hb2)
  go_ret
  exact ⟨by cases r <;> rfl, HB.out⟩
end Go.Proofs.YtmplaikgbeeikaaGreatDoor
namespace Go.Proofs.YtmplaikgbeeikaaGreatDoor
open Go Go.RowKit
theorem sum_take (l : List Int) (k : Nat) (h : k < l.length) : (l.take (k + 1)).sum = (l.take k).sum + l[k] := by
  rw [List.take_succ_eq_append_getElem h, List.sum_append]; simp
theorem within_bd {n a b : Int} (h : Sx.within n a b = true) : a ≤ n ∧ n ≤ b := by
  unfold Sx.within at h
  have := Bool.and_eq_true_iff.1 h
  exact ⟨of_decide_eq_true this.1, of_decide_eq_true this.2⟩
set_option maxRecDepth 100000 in
set_option maxHeartbeats 4000000 in
theorem isPick_any (ws : List ByteArray) (ns : List Int) (A B : Option Addr) (c d : Nat) (w : World) (hw : SlAt [] w A ws) (hn : SlAt [] w B ns) (hmw : ws.length ≤ 9223372036854775807) (hmn : ns.length ≤ 1000000) :
    Calls Tryz.prog 144 #[.slice A ws.length c, .slice B ns.length d] w (BoolP (Sx.pickB ws ns) w) := by
  have HW := Lib.hid within_any
  obtain ⟨nw, hnw⟩ : ∃ n, ws.length = n := ⟨_, rfl⟩
  obtain ⟨nn, hnn⟩ : ∃ n, ns.length = n := ⟨_, rfl⟩
  have HNN := Lib.hid hnn
  have HNW := Lib.hid hnw
  have HS := Lib.hid hn
  have CA := Lib.hid (fun w' (hb : Below w.heap.size w w') => allS_any ws A c w' (hw.keep (Chg.of_below hb)) hmw (fun _ _ => trivial))
  rw [hnw] at CA
  rw [hnw, hnn]
  rw [hnn] at hmn
  unfold rtS at CA
  clear hw hn hnn hnw hmw
  go_enter Tryz.func144, Tryz.ntmps144
  go_wp2_with fail
  go_loopg [5, 10] nn (fun r s i wr => ∃ k : Nat, k + r = nn ∧ i = .int .i64 k ∧ s = .int .i64 ((ns.take k).sum) ∧ 0 ≤ (ns.take k).sum ∧ (ns.take k).sum ≤ 1048576 * k ∧ Below w.heap.size w wr ∧ ∀ j (hj : j < ns.length), j < k → Sx.within ns[j] 0 Sx.most = true)
  case atStart => exact ⟨0, by omega, rfl, rfl, by simp, by simp, Below.refl _ _, fun _ _ h => by omega⟩
  case round =>
    obtain ⟨k, hk, rfl, rfl, hs0, hs1, hb, hall⟩ := hrel
    obtain ⟨wo, rfl⟩ : ∃ wo : World, wo = wr := ⟨_, rfl⟩
    have HB := Lib.hid hb
    have HA := Lib.hid hall
    clear hb hall
    obtain ⟨sm, hsm⟩ : ∃ s, (ns.take k).sum = s := ⟨_, rfl⟩
    rw [hsm] at hs0 hs1 ⊢
    by_cases hlt : k < nn
    · have hkp : k < ns.length := by rw [HNN.out]; exact hlt
      have k0 : (0 : Int) ≤ (k : Int) := Int.natCast_nonneg _
      have k1 : (k : Int) < (nn : Int) := by omega
      obtain ⟨b, o, rfl, _, c0, hin⟩ := int_at (HS.out.keep (Chg.of_below HB.out)) k hkp
      have HSM := Lib.hid (sum_take ns k hkp)
      have cv := HW.out ns[k] 0 1048576
      obtain ⟨bb, hbb⟩ : ∃ b, Sx.within ns[k] 0 1048576 = b := ⟨_, rfl⟩
      rw [hbb] at cv
      have CV := Lib.hid cv
      have HBB := Lib.hid hbb
      have HSE := Lib.hid hsm
      obtain ⟨x, hx⟩ : ∃ x, ns[k] = x := ⟨_, rfl⟩
      rw [hx] at c0 CV HSM hin
      have HX := Lib.hid hx
      clear cv hbb hsm hx
      cases bb
      · have HR := Lib.hid (show ns.all (fun n => Sx.within n 0 Sx.most) = false from all_bad hkp HBB.out)
        go_wp2_with (go_at_call 52; ((with_reducible refine (CV.out _).mono ?_)); rintro e w2 ⟨rfl, rfl⟩)
        go_ret
        exact ⟨by unfold Sx.pickB; rw [HR.out]; rfl, HB.out⟩
      · have hbd := within_bd HBB.out
        rw [HX.out] at hbd
        go_wp2_with (go_at_call 52; ((with_reducible refine (CV.out _).mono ?_)); rintro e w2 ⟨rfl, rfl⟩)
        go_roundg (gk - 1)
        case measure => omega
        case rel =>
          refine ⟨k + 1, by omega, by go_num, ?_, ?_, ?_, HB.out, fun q hq hlt => ?_⟩
          · rw [HSM.out, HSE.out]
          · rw [HSM.out, HSE.out]; omega
          · rw [HSM.out, HSE.out]; omega
          · rcases Nat.lt_or_ge q k with h' | h'
            · exact HA.out q hq h'
            · obtain rfl : q = k := by omega
              exact HBB.out
    · have k1 : ¬ (k : Int) < (nn : Int) := by omega
      have hR := all_good (b := fun n => Sx.within n 0 Sx.most) (l := ns) fun q hq => HA.out q hq (by rw [HNN.out] at hq; omega)
      have hsum : ns.sum = sm := by rw [← hsm, List.take_of_length_le (by rw [HNN.out]; omega)]
      have hp : Sx.pickB ws ns = (Sx.within (nw : Int) 1 12 && (decide (nw = nn) && (decide (0 < sm) && ws.all Sx.nm))) := by
        unfold Sx.pickB
        rw [hR, hsum, HNN.out, HNW.out]; rfl
      have cw := HW.out (nw : Int) 1 12
      have ca := CA.out wo HB.out
      obtain ⟨b1, h1⟩ : ∃ b, Sx.within (nw : Int) 1 12 = b := ⟨_, rfl⟩
      obtain ⟨b2, h2⟩ : ∃ b, decide (nw = nn) = b := ⟨_, rfl⟩
      obtain ⟨b3, h3⟩ : ∃ b, decide (0 < sm) = b := ⟨_, rfl⟩
      obtain ⟨b4, h4⟩ : ∃ b, ws.all Sx.nm = b := ⟨_, rfl⟩
      rw [h1] at cw
      rw [h4] at ca
      rw [h1, h2, h3, h4] at hp
      have HPK := Lib.hid hp
      have h2' : ((nw : Int) == (nn : Int)) = b2 := by
        by_cases h : nw = nn
        · rw [← h2, h]; simp
        · rw [← h2, decide_eq_false h]; exact beq_eq_false_iff_ne.2 (by omega)
      have CW := Lib.hid cw
      have CS := Lib.hid ca
      clear cw ca hp hsum hR hsm h1 h4 hs0 hs1
      cases b1 <;> cases b2 <;> cases b3 <;> (go_wp2_with (first | (go_at_call 52; ((with_reducible refine (CW.out _).mono ?_)); rintro e w2 ⟨rfl, rfl⟩) | (go_at_call 116; ((with_reducible refine (CS.out).mono ?_)); rintro e w2 ⟨rfl, hb2⟩; replace HB := Lib.hid (HB.out.trans (hb2.mono HB.out.size)); clear hb2)); go_ret; exact ⟨by rw [HPK.out]; cases b4 <;> rfl, HB.out⟩)
end Go.Proofs.YtmplaikgbeeikaaGreatDoor
namespace Go.Proofs.YtmplaikgbeeikaaGreatDoor
open Go Go.RowKit
theorem str_cells {w : World} {A : Option Addr} {l : List ByteArray} (h : SlAt [] w A l) (hl : 0 < l.length) : ∃ b o, A = some ⟨b, o, none⟩ ∧ ∀ j, j < l.length → w.cell? ⟨b, o + j, none⟩ = some (.string (l.getD j ByteArray.empty)) := by
  obtain ⟨b, o, hA, _, _, _⟩ := str_at h 0 hl
  refine ⟨b, o, hA, fun j hj => ?_⟩
  obtain ⟨b', o', hA', _, hc, _⟩ := str_at h j hj
  obtain ⟨rfl, rfl⟩ := addr_inj (hA.symm.trans hA')
  rw [hc, getD_in hj]
theorem int_cells {w : World} {A : Option Addr} {l : List Int} (h : SlAt [] w A l) (hl : 0 < l.length) : ∃ b o, A = some ⟨b, o, none⟩ ∧ ∀ j, j < l.length → w.cell? ⟨b, o + j, none⟩ = some (.int .i64 (l.getD j 0)) := by
  obtain ⟨b, o, hA, _, _, _⟩ := int_at h 0 hl
  refine ⟨b, o, hA, fun j hj => ?_⟩
  obtain ⟨b', o', hA', _, hc, _⟩ := int_at h j hj
  obtain ⟨rfl, rfl⟩ := addr_inj (hA.symm.trans hA')
  rw [hc, getD_in hj]
theorem eqS_any (xs ys : List ByteArray) (A B : Option Addr) (c d : Nat) (w : World) (ha : SlAt [] w A xs) (hb : SlAt [] w B ys) (hx : xs.length ≤ 9223372036854775807) (hy : ys.length ≤ 9223372036854775807) :
    Calls Tryz.prog 65 #[.slice A xs.length c, .slice B ys.length d] w (BoolP (decide (xs = ys)) w) := by
  by_cases hl : xs.length = ys.length
  · by_cases h0 : xs.length = 0
    · have e1 : xs = [] := List.length_eq_zero_iff.1 h0
      have e2 : ys = [] := List.length_eq_zero_iff.1 (by omega)
      subst e1 e2
      exact (Tryz.slices_Equal_string_empty A B c 0 d w (Nat.zero_le _)).mono fun e w' ⟨h1, h2⟩ => ⟨by rw [h1]; rfl, by rw [h2]; exact Below.refl _ _⟩
    · obtain ⟨b1, o1, rfl, c1⟩ := str_cells ha (by omega)
      obtain ⟨b2, o2, rfl, c2⟩ := str_cells hb (by omega)
      refine (Tryz.slices_Equal_string b1 o1 xs.length c b2 o2 ys.length d xs ys w (Nat.le_refl _) (Nat.le_refl _) hx hy c1 c2).mono fun e w' ⟨h1, q, h2⟩ => ⟨?_, by rw [h2]; exact w_drew w q⟩
      rw [h1, List.take_length, List.take_length]
  · exact (Tryz.slices_Equal_string_lens A B xs.length c ys.length d w hl).mono fun e w' ⟨h1, h2⟩ => ⟨by rw [h1, decide_eq_false (fun h => hl (by rw [h]))], by rw [h2]; exact Below.refl _ _⟩
theorem eqI_any (xs ys : List Int) (A B : Option Addr) (c d : Nat) (w : World) (ha : SlAt [] w A xs) (hb : SlAt [] w B ys) (hx : xs.length ≤ 9223372036854775807) (hy : ys.length ≤ 9223372036854775807) :
    Calls Tryz.prog 121 #[.slice A xs.length c, .slice B ys.length d] w (BoolP (decide (xs = ys)) w) := by
  by_cases hl : xs.length = ys.length
  · by_cases h0 : xs.length = 0
    · have e1 : xs = [] := List.length_eq_zero_iff.1 h0
      have e2 : ys = [] := List.length_eq_zero_iff.1 (by omega)
      subst e1 e2
      exact (Tryz.slices_Equal_int_empty A B c 0 d w (Nat.zero_le _)).mono fun e w' ⟨h1, h2⟩ => ⟨by rw [h1]; rfl, by rw [h2]; exact Below.refl _ _⟩
    · obtain ⟨b1, o1, rfl, c1⟩ := int_cells ha (by omega)
      obtain ⟨b2, o2, rfl, c2⟩ := int_cells hb (by omega)
      refine (Tryz.slices_Equal_int b1 o1 xs.length c b2 o2 ys.length d xs ys w (Nat.le_refl _) (Nat.le_refl _) hx hy c1 c2).mono fun e w' ⟨h1, q, h2⟩ => ⟨?_, by rw [h2]; exact w_drew w q⟩
      rw [h1, List.take_length, List.take_length]
      by_cases h : xs = ys
      · rw [decide_eq_true h, h]; simp
      · rw [decide_eq_false h, beq_eq_false_iff_ne.2 h]
  · exact (Tryz.slices_Equal_int_lens A B xs.length c ys.length d w hl).mono fun e w' ⟨h1, h2⟩ => ⟨by rw [h1, decide_eq_false (fun h => hl (by rw [h]))], by rw [h2]; exact Below.refl _ _⟩
end Go.Proofs.YtmplaikgbeeikaaGreatDoor
namespace Go.Proofs.YtmplaikgbeeikaaGreatDoor
open Go Go.RowKit
def Sx.sameF (a b : Fld) : Bool := decide (Sc.nm a = Sc.nm b) && (decide (Sc.of_ a = Sc.of_ b) && (decide (Sc.up a = Sc.up b) && (decide (Sc.kd a = Sc.kd b) && (decide (Sc.lo a = Sc.lo b) && (decide (Sc.hi a = Sc.hi b) && (decide (Sc.words a = Sc.words b) && (decide (Sc.wts a = Sc.wts b))))))))
theorem strEqB (s t : ByteArray) : (s.toList == t.toList) = decide (s = t) := by
  by_cases h : s = t
  · rw [decide_eq_true h, h]; exact strEq_true t
  · rw [decide_eq_false h]; exact strEq_false h
theorem intEqB (a b : Int) : (a == b) = decide (a = b) := by by_cases h : a = b <;> simp [h]
set_option maxRecDepth 100000 in
set_option maxHeartbeats 8000000 in
theorem sameField_any (a b : Fld) (us vs : List Value) (w : World) (ha : Mem.rep [] w a us) (hb : Mem.rep [] w b vs) :
    Calls Tryz.prog 62 #[.agg us.toArray, .agg vs.toArray] w (BoolP (Sx.sameF a b) w) := by
  obtain ⟨A, c, B, d, rfl, s1, s2, a4, a5, a6, a1, a2, a3, b1, b2, e1, e2⟩ := rep_fld ha
  obtain ⟨A', c', B', d', rfl, s1', s2', a4', a5', a6', a1', a2', a3', b1', b2', e1', e2'⟩ := rep_fld hb
  obtain ⟨W1, hW1⟩ : ∃ X, (w.alloc (.cells #[.string (Sc.nm a), .string (Sc.of_ a), .string (Sc.up a), .int .i64 (Sc.kd a), .int .i64 (Sc.lo a), .int .i64 (Sc.hi a), .slice A (Sc.words a).length c, .slice B (Sc.wts a).length d] 52)) = X := ⟨_, rfl⟩
  obtain ⟨W2, hW2⟩ : ∃ X, (W1.alloc (.cells #[.string (Sc.nm b), .string (Sc.of_ b), .string (Sc.up b), .int .i64 (Sc.kd b), .int .i64 (Sc.lo b), .int .i64 (Sc.hi b), .slice A' (Sc.words b).length c', .slice B' (Sc.wts b).length d'] 52)) = X := ⟨_, rfl⟩
  have hB1 : Below w.heap.size w W1 := by rw [← hW1]; exact (Below.refl w.heap.size w).alloc (Nat.le_refl _) _
  have hB2 : Below w.heap.size w W2 := by rw [← hW2]; exact hB1.alloc hB1.size _
  have CS := Lib.hid (fun w' (hb : Below w.heap.size w w') => eqS_any (Sc.words a) (Sc.words b) A A' c c' w' (s1.keep (Chg.of_below hb)) (s1'.keep (Chg.of_below hb)) (Nat.le_trans b1 b2) (Nat.le_trans b1' b2'))
  have CI := Lib.hid (fun w' (hb : Below w.heap.size w w') => eqI_any (Sc.wts a) (Sc.wts b) B B' d d' w' (s2.keep (Chg.of_below hb)) (s2'.keep (Chg.of_below hb)) (Nat.le_trans e1 e2) (Nat.le_trans e1' e2'))
  have hz1 : W1.heap.size = w.heap.size + 1 := by rw [← hW1]; show (w.heap.push _).size = _; rw [Array.size_push]
  have hc7 : W2.cell? ⟨w.heap.size, 7, none⟩ = some (.slice B (Sc.wts a).length d) := by
    have h1 : W1.cell? ⟨w.heap.size, 7, none⟩ = some (.slice B (Sc.wts a).length d) := by rw [← hW1]; exact (Blk.new w _ _).cell 7
    have h2 : Below W1.heap.size W1 W2 := by rw [← hW2]; exact (Below.refl W1.heap.size W1).alloc (Nat.le_refl _) _
    exact (h2.cell (World.block_lt_of_cell? _ _ h1)).trans h1
  have hd7 : W2.cell? ⟨w.heap.size + 1, 7, none⟩ = some (.slice B' (Sc.wts b).length d') := by rw [← hz1, ← hW2]; exact (Blk.new W1 _ _).cell 7
  have HC7 := Lib.hid hc7
  have HD7 := Lib.hid hd7
  have HB := Lib.hid hB2
  have HW1 := Lib.hid hW1
  have HW2 := Lib.hid hW2
  show Calls Tryz.prog 62 #[.agg #[.string (Sc.nm a), .string (Sc.of_ a), .string (Sc.up a), .int .i64 (Sc.kd a), .int .i64 (Sc.lo a), .int .i64 (Sc.hi a), .slice A (Sc.words a).length c, .slice B (Sc.wts a).length d], .agg #[.string (Sc.nm b), .string (Sc.of_ b), .string (Sc.up b), .int .i64 (Sc.kd b), .int .i64 (Sc.lo b), .int .i64 (Sc.hi b), .slice A' (Sc.words b).length c', .slice B' (Sc.wts b).length d']] w _
  clear ha hb s1 s2 s1' s2' hB1 hB2 hW1 hW2 hz1 hc7 hd7 a1 a2 a3 a4 a5 a6 a1' a2' a3' a4' a5' a6' b1 b2 b1' b2' e1 e2 e1' e2'
  obtain ⟨r0, h0⟩ : ∃ r, decide (Sc.nm a = Sc.nm b) = r := ⟨_, rfl⟩
  obtain ⟨r1, h1⟩ : ∃ r, decide (Sc.of_ a = Sc.of_ b) = r := ⟨_, rfl⟩
  obtain ⟨r2, h2⟩ : ∃ r, decide (Sc.up a = Sc.up b) = r := ⟨_, rfl⟩
  obtain ⟨r3, h3⟩ : ∃ r, decide (Sc.kd a = Sc.kd b) = r := ⟨_, rfl⟩
  obtain ⟨r4, h4⟩ : ∃ r, decide (Sc.lo a = Sc.lo b) = r := ⟨_, rfl⟩
  obtain ⟨r5, h5⟩ : ∃ r, decide (Sc.hi a = Sc.hi b) = r := ⟨_, rfl⟩
  obtain ⟨r6, h6⟩ : ∃ r, decide (Sc.words a = Sc.words b) = r := ⟨_, rfl⟩
  obtain ⟨r7, h7⟩ : ∃ r, decide (Sc.wts a = Sc.wts b) = r := ⟨_, rfl⟩
  have HF := Lib.hid (show Sx.sameF a b = (r0 && (r1 && (r2 && (r3 && (r4 && (r5 && (r6 && (r7)))))))) by unfold Sx.sameF; rw [h0, h1, h2, h3, h4, h5, h6, h7])
  rw [h6] at CS
  rw [h7] at CI
  have q0 : ((Sc.nm a).toList == (Sc.nm b).toList) = r0 := by rw [← h0]; exact strEqB _ _
  have q1 : ((Sc.of_ a).toList == (Sc.of_ b).toList) = r1 := by rw [← h1]; exact strEqB _ _
  have q2 : ((Sc.up a).toList == (Sc.up b).toList) = r2 := by rw [← h2]; exact strEqB _ _
  have q3 : (Sc.kd a == Sc.kd b) = r3 := by rw [← h3]; exact intEqB _ _
  have q4 : (Sc.lo a == Sc.lo b) = r4 := by rw [← h4]; exact intEqB _ _
  have q5 : (Sc.hi a == Sc.hi b) = r5 := by rw [← h5]; exact intEqB _ _
  clear h0 h1 h2 h3 h4 h5 h6 h7
  generalize Sx.sameF a b = sf at *
  generalize Sc.nm a = xnm at *
  generalize Sc.nm b = ynm at *
  generalize Sc.of_ a = xof at *
  generalize Sc.of_ b = yof at *
  generalize Sc.up a = xup at *
  generalize Sc.up b = yup at *
  generalize Sc.kd a = xkd at *
  generalize Sc.kd b = ykd at *
  generalize Sc.lo a = xlo at *
  generalize Sc.lo b = ylo at *
  generalize Sc.hi a = xhi at *
  generalize Sc.hi b = yhi at *
  generalize (Sc.words a).length = xwords at *
  generalize (Sc.words b).length = ywords at *
  generalize (Sc.wts a).length = xwts at *
  generalize (Sc.wts b).length = ywts at *
  go_enter Tryz.func62, Tryz.ntmps62
  cases r0
  · go_wp2_with (first | (go_at_call 65; rw [HW1.out, HW2.out]; ((with_reducible refine (CS.out _ HB.out).mono ?_)); rintro e w2 ⟨rfl, hb2⟩; have z7 := (hb2.cell (World.block_lt_of_cell? _ _ HC7.out)).trans HC7.out; have z8 := (hb2.cell (World.block_lt_of_cell? _ _ HD7.out)).trans HD7.out; replace HB := Lib.hid (HB.out.trans (hb2.mono HB.out.size)); clear hb2) | (go_at_call 121; ((with_reducible refine (CI.out _ HB.out).mono ?_)); rintro e w2 ⟨rfl, hb2⟩; replace HB := Lib.hid (HB.out.trans (hb2.mono HB.out.size)); clear hb2))
    go_ret
    exact ⟨by rw [HF.out]; rfl, by first | exact HB.out | (rw [HW1.out, HW2.out]; exact HB.out)⟩
  cases r1
  · go_wp2_with (first | (go_at_call 65; rw [HW1.out, HW2.out]; ((with_reducible refine (CS.out _ HB.out).mono ?_)); rintro e w2 ⟨rfl, hb2⟩; have z7 := (hb2.cell (World.block_lt_of_cell? _ _ HC7.out)).trans HC7.out; have z8 := (hb2.cell (World.block_lt_of_cell? _ _ HD7.out)).trans HD7.out; replace HB := Lib.hid (HB.out.trans (hb2.mono HB.out.size)); clear hb2) | (go_at_call 121; ((with_reducible refine (CI.out _ HB.out).mono ?_)); rintro e w2 ⟨rfl, hb2⟩; replace HB := Lib.hid (HB.out.trans (hb2.mono HB.out.size)); clear hb2))
    go_ret
    exact ⟨by rw [HF.out]; rfl, by first | exact HB.out | (rw [HW1.out, HW2.out]; exact HB.out)⟩
  cases r2
  · go_wp2_with (first | (go_at_call 65; rw [HW1.out, HW2.out]; ((with_reducible refine (CS.out _ HB.out).mono ?_)); rintro e w2 ⟨rfl, hb2⟩; have z7 := (hb2.cell (World.block_lt_of_cell? _ _ HC7.out)).trans HC7.out; have z8 := (hb2.cell (World.block_lt_of_cell? _ _ HD7.out)).trans HD7.out; replace HB := Lib.hid (HB.out.trans (hb2.mono HB.out.size)); clear hb2) | (go_at_call 121; ((with_reducible refine (CI.out _ HB.out).mono ?_)); rintro e w2 ⟨rfl, hb2⟩; replace HB := Lib.hid (HB.out.trans (hb2.mono HB.out.size)); clear hb2))
    go_ret
    exact ⟨by rw [HF.out]; rfl, by first | exact HB.out | (rw [HW1.out, HW2.out]; exact HB.out)⟩
  cases r3
  · go_wp2_with (first | (go_at_call 65; rw [HW1.out, HW2.out]; ((with_reducible refine (CS.out _ HB.out).mono ?_)); rintro e w2 ⟨rfl, hb2⟩; have z7 := (hb2.cell (World.block_lt_of_cell? _ _ HC7.out)).trans HC7.out; have z8 := (hb2.cell (World.block_lt_of_cell? _ _ HD7.out)).trans HD7.out; replace HB := Lib.hid (HB.out.trans (hb2.mono HB.out.size)); clear hb2) | (go_at_call 121; ((with_reducible refine (CI.out _ HB.out).mono ?_)); rintro e w2 ⟨rfl, hb2⟩; replace HB := Lib.hid (HB.out.trans (hb2.mono HB.out.size)); clear hb2))
    go_ret
    exact ⟨by rw [HF.out]; rfl, by first | exact HB.out | (rw [HW1.out, HW2.out]; exact HB.out)⟩
  cases r4
  · go_wp2_with (first | (go_at_call 65; rw [HW1.out, HW2.out]; ((with_reducible refine (CS.out _ HB.out).mono ?_)); rintro e w2 ⟨rfl, hb2⟩; have z7 := (hb2.cell (World.block_lt_of_cell? _ _ HC7.out)).trans HC7.out; have z8 := (hb2.cell (World.block_lt_of_cell? _ _ HD7.out)).trans HD7.out; replace HB := Lib.hid (HB.out.trans (hb2.mono HB.out.size)); clear hb2) | (go_at_call 121; ((with_reducible refine (CI.out _ HB.out).mono ?_)); rintro e w2 ⟨rfl, hb2⟩; replace HB := Lib.hid (HB.out.trans (hb2.mono HB.out.size)); clear hb2))
    go_ret
    exact ⟨by rw [HF.out]; rfl, by first | exact HB.out | (rw [HW1.out, HW2.out]; exact HB.out)⟩
  cases r5
  · go_wp2_with (first | (go_at_call 65; rw [HW1.out, HW2.out]; ((with_reducible refine (CS.out _ HB.out).mono ?_)); rintro e w2 ⟨rfl, hb2⟩; have z7 := (hb2.cell (World.block_lt_of_cell? _ _ HC7.out)).trans HC7.out; have z8 := (hb2.cell (World.block_lt_of_cell? _ _ HD7.out)).trans HD7.out; replace HB := Lib.hid (HB.out.trans (hb2.mono HB.out.size)); clear hb2) | (go_at_call 121; ((with_reducible refine (CI.out _ HB.out).mono ?_)); rintro e w2 ⟨rfl, hb2⟩; replace HB := Lib.hid (HB.out.trans (hb2.mono HB.out.size)); clear hb2))
    go_ret
    exact ⟨by rw [HF.out]; rfl, by first | exact HB.out | (rw [HW1.out, HW2.out]; exact HB.out)⟩
  cases r6
  · go_wp2_with (first | (go_at_call 65; rw [HW1.out, HW2.out]; ((with_reducible refine (CS.out _ HB.out).mono ?_)); rintro e w2 ⟨rfl, hb2⟩; have z7 := (hb2.cell (World.block_lt_of_cell? _ _ HC7.out)).trans HC7.out; have z8 := (hb2.cell (World.block_lt_of_cell? _ _ HD7.out)).trans HD7.out; replace HB := Lib.hid (HB.out.trans (hb2.mono HB.out.size)); clear hb2) | (go_at_call 121; ((with_reducible refine (CI.out _ HB.out).mono ?_)); rintro e w2 ⟨rfl, hb2⟩; replace HB := Lib.hid (HB.out.trans (hb2.mono HB.out.size)); clear hb2))
    go_ret
    exact ⟨by rw [HF.out]; rfl, by first | exact HB.out | (rw [HW1.out, HW2.out]; exact HB.out)⟩
  go_wp2_with (first | (go_at_call 65; rw [HW1.out, HW2.out]; ((with_reducible refine (CS.out _ HB.out).mono ?_)); rintro e w2 ⟨rfl, hb2⟩; have z7 := (hb2.cell (World.block_lt_of_cell? _ _ HC7.out)).trans HC7.out; have z8 := (hb2.cell (World.block_lt_of_cell? _ _ HD7.out)).trans HD7.out; replace HB := Lib.hid (HB.out.trans (hb2.mono HB.out.size)); clear hb2) | (go_at_call 121; ((with_reducible refine (CI.out _ HB.out).mono ?_)); rintro e w2 ⟨rfl, hb2⟩; replace HB := Lib.hid (HB.out.trans (hb2.mono HB.out.size)); clear hb2))
  go_ret
  exact ⟨by rw [HF.out]; cases r7 <;> rfl, HB.out⟩
end Go.Proofs.YtmplaikgbeeikaaGreatDoor
namespace Go.Proofs.YtmplaikgbeeikaaGreatDoor
open Go Go.RowKit
def Sx.only (f : Fld) : Fld :=
  if Sc.kd f = 0 then (Sc.nm f, ⟨#[]⟩, ⟨#[]⟩, 0, Sc.lo f, 0, [], [])
  else if Sc.kd f = 1 ∨ Sc.kd f = 4 ∨ Sc.kd f = 5 then (Sc.nm f, Sc.of_ f, ⟨#[]⟩, Sc.kd f, Sc.lo f, Sc.hi f, [], [])
  else if Sc.kd f = 2 then (Sc.nm f, ⟨#[]⟩, ⟨#[]⟩, 2, Sc.lo f, Sc.hi f, [], [])
  else if Sc.kd f = 3 then (Sc.nm f, ⟨#[]⟩, ⟨#[]⟩, 3, 0, 0, Sc.words f, Sc.wts f)
  else if Sc.kd f = 6 then (Sc.nm f, Sc.of_ f, ⟨#[]⟩, 6, 0, 0, [], [])
  else if Sc.kd f = 7 then (Sc.nm f, Sc.of_ f, Sc.up f, 7, Sc.lo f, Sc.hi f, [], [])
  else if Sc.kd f = 8 then (Sc.nm f, Sc.of_ f, Sc.up f, 8, 0, 0, [], [])
  else (Sc.nm f, ⟨#[]⟩, ⟨#[]⟩, Sc.kd f, 0, 0, [], [])
set_option maxRecDepth 100000 in
set_option maxHeartbeats 8000000 in
theorem only_0 (nm of_ up : ByteArray) (lo hi : Int) (A B : Option Addr) (a b c d : Nat) (w : World) :
    Calls Tryz.prog 143 #[.agg #[.string nm, .string of_, .string up, .int .i64 0, .int .i64 lo, .int .i64 hi, .slice A a c, .slice B b d]] w fun e w' => e = .returned (.agg #[.string nm, .string ⟨#[]⟩, .string ⟨#[]⟩, .int .i64 0, .int .i64 lo, .int .i64 0, .slice none 0 0, .slice none 0 0]) ∧ Below w.heap.size w w' := by
  go_enter Tryz.func143, Tryz.ntmps143
  go_upto_region 19 with fail
  go_wp2_with fail
  refine bodyPost_ret (v := .agg #[.string nm, .string ⟨#[]⟩, .string ⟨#[]⟩, .int .i64 0, .int .i64 lo, .int .i64 0, .slice none 0 0, .slice none 0 0]) ?_ rfl ?_
  · simp [results, Tryz.results143, go_sem]
  · exact ⟨rfl, by go_grown⟩
set_option maxRecDepth 100000 in
set_option maxHeartbeats 8000000 in
theorem only_1 (nm of_ up : ByteArray) (lo hi : Int) (A B : Option Addr) (a b c d : Nat) (w : World) :
    Calls Tryz.prog 143 #[.agg #[.string nm, .string of_, .string up, .int .i64 1, .int .i64 lo, .int .i64 hi, .slice A a c, .slice B b d]] w fun e w' => e = .returned (.agg #[.string nm, .string of_, .string ⟨#[]⟩, .int .i64 1, .int .i64 lo, .int .i64 hi, .slice none 0 0, .slice none 0 0]) ∧ Below w.heap.size w w' := by
  go_enter Tryz.func143, Tryz.ntmps143
  go_upto_region 8 with fail
  go_region
  go_upto_region 19 with fail
  go_wp2_with fail
  refine bodyPost_ret (v := .agg #[.string nm, .string of_, .string ⟨#[]⟩, .int .i64 1, .int .i64 lo, .int .i64 hi, .slice none 0 0, .slice none 0 0]) ?_ rfl ?_
  · simp [results, Tryz.results143, go_sem]
  · exact ⟨rfl, by go_grown⟩
set_option maxRecDepth 100000 in
set_option maxHeartbeats 8000000 in
theorem only_2 (nm of_ up : ByteArray) (lo hi : Int) (A B : Option Addr) (a b c d : Nat) (w : World) :
    Calls Tryz.prog 143 #[.agg #[.string nm, .string of_, .string up, .int .i64 2, .int .i64 lo, .int .i64 hi, .slice A a c, .slice B b d]] w fun e w' => e = .returned (.agg #[.string nm, .string ⟨#[]⟩, .string ⟨#[]⟩, .int .i64 2, .int .i64 lo, .int .i64 hi, .slice none 0 0, .slice none 0 0]) ∧ Below w.heap.size w w' := by
  go_enter Tryz.func143, Tryz.ntmps143
  go_upto_region 10 with fail
  go_region
  go_upto_region 19 with fail
  go_wp2_with fail
  refine bodyPost_ret (v := .agg #[.string nm, .string ⟨#[]⟩, .string ⟨#[]⟩, .int .i64 2, .int .i64 lo, .int .i64 hi, .slice none 0 0, .slice none 0 0]) ?_ rfl ?_
  · simp [results, Tryz.results143, go_sem]
  · exact ⟨rfl, by go_grown⟩
set_option maxRecDepth 100000 in
set_option maxHeartbeats 8000000 in
theorem only_3 (nm of_ up : ByteArray) (lo hi : Int) (A B : Option Addr) (a b c d : Nat) (w : World) :
    Calls Tryz.prog 143 #[.agg #[.string nm, .string of_, .string up, .int .i64 3, .int .i64 lo, .int .i64 hi, .slice A a c, .slice B b d]] w fun e w' => e = .returned (.agg #[.string nm, .string ⟨#[]⟩, .string ⟨#[]⟩, .int .i64 3, .int .i64 0, .int .i64 0, .slice A a c, .slice B b d]) ∧ Below w.heap.size w w' := by
  go_enter Tryz.func143, Tryz.ntmps143
  go_upto_region 12 with fail
  go_region
  go_upto_region 19 with fail
  go_wp2_with fail
  refine bodyPost_ret (v := .agg #[.string nm, .string ⟨#[]⟩, .string ⟨#[]⟩, .int .i64 3, .int .i64 0, .int .i64 0, .slice A a c, .slice B b d]) ?_ rfl ?_
  · simp [results, Tryz.results143, go_sem]
  · exact ⟨rfl, by go_grown⟩
set_option maxRecDepth 100000 in
set_option maxHeartbeats 8000000 in
theorem only_4 (nm of_ up : ByteArray) (lo hi : Int) (A B : Option Addr) (a b c d : Nat) (w : World) :
    Calls Tryz.prog 143 #[.agg #[.string nm, .string of_, .string up, .int .i64 4, .int .i64 lo, .int .i64 hi, .slice A a c, .slice B b d]] w fun e w' => e = .returned (.agg #[.string nm, .string of_, .string ⟨#[]⟩, .int .i64 4, .int .i64 lo, .int .i64 hi, .slice none 0 0, .slice none 0 0]) ∧ Below w.heap.size w w' := by
  go_enter Tryz.func143, Tryz.ntmps143
  go_upto_region 8 with fail
  go_region
  go_upto_region 19 with fail
  go_wp2_with fail
  refine bodyPost_ret (v := .agg #[.string nm, .string of_, .string ⟨#[]⟩, .int .i64 4, .int .i64 lo, .int .i64 hi, .slice none 0 0, .slice none 0 0]) ?_ rfl ?_
  · simp [results, Tryz.results143, go_sem]
  · exact ⟨rfl, by go_grown⟩
set_option maxRecDepth 100000 in
set_option maxHeartbeats 8000000 in
theorem only_5 (nm of_ up : ByteArray) (lo hi : Int) (A B : Option Addr) (a b c d : Nat) (w : World) :
    Calls Tryz.prog 143 #[.agg #[.string nm, .string of_, .string up, .int .i64 5, .int .i64 lo, .int .i64 hi, .slice A a c, .slice B b d]] w fun e w' => e = .returned (.agg #[.string nm, .string of_, .string ⟨#[]⟩, .int .i64 5, .int .i64 lo, .int .i64 hi, .slice none 0 0, .slice none 0 0]) ∧ Below w.heap.size w w' := by
  go_enter Tryz.func143, Tryz.ntmps143
  go_upto_region 8 with fail
  go_region
  go_upto_region 19 with fail
  go_wp2_with fail
  refine bodyPost_ret (v := .agg #[.string nm, .string of_, .string ⟨#[]⟩, .int .i64 5, .int .i64 lo, .int .i64 hi, .slice none 0 0, .slice none 0 0]) ?_ rfl ?_
  · simp [results, Tryz.results143, go_sem]
  · exact ⟨rfl, by go_grown⟩
set_option maxRecDepth 100000 in
set_option maxHeartbeats 8000000 in
theorem only_6 (nm of_ up : ByteArray) (lo hi : Int) (A B : Option Addr) (a b c d : Nat) (w : World) :
    Calls Tryz.prog 143 #[.agg #[.string nm, .string of_, .string up, .int .i64 6, .int .i64 lo, .int .i64 hi, .slice A a c, .slice B b d]] w fun e w' => e = .returned (.agg #[.string nm, .string of_, .string ⟨#[]⟩, .int .i64 6, .int .i64 0, .int .i64 0, .slice none 0 0, .slice none 0 0]) ∧ Below w.heap.size w w' := by
  go_enter Tryz.func143, Tryz.ntmps143
  go_upto_region 19 with fail
  go_wp2_with fail
  refine bodyPost_ret (v := .agg #[.string nm, .string of_, .string ⟨#[]⟩, .int .i64 6, .int .i64 0, .int .i64 0, .slice none 0 0, .slice none 0 0]) ?_ rfl ?_
  · simp [results, Tryz.results143, go_sem]
  · exact ⟨rfl, by go_grown⟩
set_option maxRecDepth 100000 in
set_option maxHeartbeats 8000000 in
theorem only_7 (nm of_ up : ByteArray) (lo hi : Int) (A B : Option Addr) (a b c d : Nat) (w : World) :
    Calls Tryz.prog 143 #[.agg #[.string nm, .string of_, .string up, .int .i64 7, .int .i64 lo, .int .i64 hi, .slice A a c, .slice B b d]] w fun e w' => e = .returned (.agg #[.string nm, .string of_, .string up, .int .i64 7, .int .i64 lo, .int .i64 hi, .slice none 0 0, .slice none 0 0]) ∧ Below w.heap.size w w' := by
  go_enter Tryz.func143, Tryz.ntmps143
  go_upto_region 16 with fail
  go_region
  go_upto_region 19 with fail
  go_wp2_with fail
  refine bodyPost_ret (v := .agg #[.string nm, .string of_, .string up, .int .i64 7, .int .i64 lo, .int .i64 hi, .slice none 0 0, .slice none 0 0]) ?_ rfl ?_
  · simp [results, Tryz.results143, go_sem]
  · exact ⟨rfl, by go_grown⟩
set_option maxRecDepth 100000 in
set_option maxHeartbeats 8000000 in
theorem only_8 (nm of_ up : ByteArray) (lo hi : Int) (A B : Option Addr) (a b c d : Nat) (w : World) :
    Calls Tryz.prog 143 #[.agg #[.string nm, .string of_, .string up, .int .i64 8, .int .i64 lo, .int .i64 hi, .slice A a c, .slice B b d]] w fun e w' => e = .returned (.agg #[.string nm, .string of_, .string up, .int .i64 8, .int .i64 0, .int .i64 0, .slice none 0 0, .slice none 0 0]) ∧ Below w.heap.size w w' := by
  go_enter Tryz.func143, Tryz.ntmps143
  go_upto_region 18 with fail
  go_region
  go_upto_region 19 with fail
  go_wp2_with fail
  refine bodyPost_ret (v := .agg #[.string nm, .string of_, .string up, .int .i64 8, .int .i64 0, .int .i64 0, .slice none 0 0, .slice none 0 0]) ?_ rfl ?_
  · simp [results, Tryz.results143, go_sem]
  · exact ⟨rfl, by go_grown⟩
set_option maxRecDepth 100000 in
set_option maxHeartbeats 8000000 in
theorem only_9 (nm of_ up : ByteArray) (lo hi : Int) (A B : Option Addr) (a b c d : Nat) (kd : Int) (hk : ∀ j : Nat, j < 9 → kd ≠ (j : Int)) (w : World) :
    Calls Tryz.prog 143 #[.agg #[.string nm, .string of_, .string up, .int .i64 kd, .int .i64 lo, .int .i64 hi, .slice A a c, .slice B b d]] w fun e w' => e = .returned (.agg #[.string nm, .string ⟨#[]⟩, .string ⟨#[]⟩, .int .i64 kd, .int .i64 0, .int .i64 0, .slice none 0 0, .slice none 0 0]) ∧ Below w.heap.size w w' := by
  have k0 : (kd == 0) = false := beq_eq_false_iff_ne.2 (hk 0 (by omega))
  have k1 : (kd == 1) = false := beq_eq_false_iff_ne.2 (hk 1 (by omega))
  have k2 : (kd == 2) = false := beq_eq_false_iff_ne.2 (hk 2 (by omega))
  have k3 : (kd == 3) = false := beq_eq_false_iff_ne.2 (hk 3 (by omega))
  have k4 : (kd == 4) = false := beq_eq_false_iff_ne.2 (hk 4 (by omega))
  have k5 : (kd == 5) = false := beq_eq_false_iff_ne.2 (hk 5 (by omega))
  have k6 : (kd == 6) = false := beq_eq_false_iff_ne.2 (hk 6 (by omega))
  have k7 : (kd == 7) = false := beq_eq_false_iff_ne.2 (hk 7 (by omega))
  have k8 : (kd == 8) = false := beq_eq_false_iff_ne.2 (hk 8 (by omega))
  clear hk
  go_enter Tryz.func143, Tryz.ntmps143
  go_upto_region 19 with fail
  go_wp2_with fail
  refine bodyPost_ret (v := .agg #[.string nm, .string ⟨#[]⟩, .string ⟨#[]⟩, .int .i64 kd, .int .i64 0, .int .i64 0, .slice none 0 0, .slice none 0 0]) ?_ rfl ?_
  · simp [results, Tryz.results143, go_sem]
  · exact ⟨rfl, by go_grown⟩
end Go.Proofs.YtmplaikgbeeikaaGreatDoor
namespace Go.Proofs.YtmplaikgbeeikaaGreatDoor
open Go Go.RowKit
theorem fld_rep {G : List Nat} {w : World} {nm of_ up : ByteArray} {kd lo hi : Int} {ws : List ByteArray} {ns : List Int} {A B : Option Addr} {c d : Nat} (h1 : nm.size ≤ 9223372036854775807) (h2 : of_.size ≤ 9223372036854775807) (h3 : up.size ≤ 9223372036854775807) (h4 : inI kd) (h5 : inI lo) (h6 : inI hi)
    (s1 : SlAt G w A ws) (s2 : SlAt G w B ns) (b1 : ws.length ≤ c) (b2 : c ≤ 9223372036854775807) (e1 : ns.length ≤ d) (e2 : d ≤ 9223372036854775807) :
    Mem.rep G w ((nm, of_, up, kd, lo, hi, ws, ns) : Fld) [.string nm, .string of_, .string up, .int .i64 kd, .int .i64 lo, .int .i64 hi, .slice A ws.length c, .slice B ns.length d] :=
  ⟨[.string nm], _, rfl, ⟨rfl, h1⟩, [.string of_], _, rfl, ⟨rfl, h2⟩, [.string up], _, rfl, ⟨rfl, h3⟩, [.int .i64 kd], _, rfl, ⟨rfl, h4⟩, [.int .i64 lo], _, rfl, ⟨rfl, h5⟩, [.int .i64 hi], _, rfl, ⟨rfl, h6⟩, [.slice A ws.length c], _, rfl, ⟨A, c, rfl, b1, b2, s1⟩, ⟨B, d, rfl, e1, e2, s2⟩⟩
theorem empty_size : (⟨#[]⟩ : ByteArray).size ≤ 9223372036854775807 := by decide
theorem only_eq (nm of_ up : ByteArray) (kd lo hi : Int) (ws : List ByteArray) (ns : List Int) : Sx.only (nm, of_, up, kd, lo, hi, ws, ns) =
    if kd = 0 then (nm, ⟨#[]⟩, ⟨#[]⟩, 0, lo, 0, [], [])
    else if kd = 1 ∨ kd = 4 ∨ kd = 5 then (nm, of_, ⟨#[]⟩, kd, lo, hi, [], [])
    else if kd = 2 then (nm, ⟨#[]⟩, ⟨#[]⟩, 2, lo, hi, [], [])
    else if kd = 3 then (nm, ⟨#[]⟩, ⟨#[]⟩, 3, 0, 0, ws, ns)
    else if kd = 6 then (nm, of_, ⟨#[]⟩, 6, 0, 0, [], [])
    else if kd = 7 then (nm, of_, up, 7, lo, hi, [], [])
    else if kd = 8 then (nm, of_, up, 8, 0, 0, [], [])
    else (nm, ⟨#[]⟩, ⟨#[]⟩, kd, 0, 0, [], []) := rfl
end Go.Proofs.YtmplaikgbeeikaaGreatDoor
