/- The specification of Schema, lemmas for its walk. -/
import Derived.Test.YtdpcdocaahjeoaaDoorW37
import Derived.WalkLawsBesides
import Derived.Deep.CutBlock
import Derived.Deep.RegionHeld3
namespace Go.Proofs.YtdpcdocaahjeoaaDoor
open Go Go.RowKit
namespace Sg
/-- Kinds made one after the other. -/
inductive Kinds : List Knd → Prop
  | nil : Kinds []
  | snoc (ks : List Knd) (k : Knd) (ks' : List Knd) : Kinds ks → Kind ks k ks' → Kinds (ks' ++ [k])
def bnew : ByteArray := ⟨#[110, 101, 119]⟩
def bopen : ByteArray := ⟨#[111, 112, 101, 110]⟩
def bdone : ByteArray := ⟨#[100, 111, 110, 101]⟩
def bshut : ByteArray := ⟨#[115, 104, 117, 116]⟩
def states : List ByteArray := [bnew, bopen, bdone, bshut]
def steps (m : Nat) : List (Int × Int) := (List.range m).map fun (i : Nat) => ((i : Int), (i : Int) + 1)
inductive Life : Lif → Prop
  | mk (m : Nat) (a b : List (Int × Int)) : 2 ≤ m → m ≤ 4 → (a = [] ∨ a = [(1, 0)]) → (b = [] ∨ b = [(0, (m : Int) - 1)]) → Life (blife, states.take m, steps (m - 1) ++ a ++ b)
/-- Rules made of the first i kinds. -/
inductive Rules (ks : List Knd) : Nat → List Rul → Prop
  | nil : Rules ks 0 []
  | step (i : Nat) (h : i < ks.length) (rs : List Rul) (r : Rul) (b : Bool) : Rules ks i rs → rs.length < 2 → Rule ks[i] r b → Rules ks (i + 1) (if b then rs ++ [r] else rs)
inductive Schema : Sch → Prop
  | mk (ver : Int) (ks : List Knd) (lf : Lif) (i : Nat) (rs : List Rul) : 0 ≤ ver → ver ≤ 3 → 1 ≤ ks.length → ks.length ≤ 3 → Kinds ks → Life lf → Rules ks i rs → (i = ks.length ∨ rs.length = 2) → Schema (ver, ks, [lf], rs)
/-- Bounds of a field. -/
def FBd (f : Fld) : Prop := -1000 ≤ Sc.lo f ∧ Sc.lo f ≤ 1000 ∧ -1000 ≤ Sc.hi f ∧ Sc.hi f ≤ 1000
theorem Plain.bd {fs : List Fld} (h : Plain fs) : ∀ f ∈ fs, FBd f := by
  cases h with
  | none => intro f hf; cases hf
  | size lo d _ _ _ _ => intro f hf; simp only [List.mem_singleton] at hf; subst hf; unfold FBd Sc.lo Sc.hi; simp only; omega
  | tag k ws _ _ _ _ _ => intro f hf; simp only [List.mem_singleton] at hf; subst hf; unfold FBd Sc.lo Sc.hi; simp only; omega
  | born lo d lo2 d2 _ _ _ _ _ _ _ _ =>
    intro f hf
    simp only [List.mem_cons, List.not_mem_nil, or_false] at hf
    rcases hf with rfl | rfl <;> (unfold FBd Sc.lo Sc.hi; simp only; omega)
  | state lo d _ _ _ _ => intro f hf; simp only [List.mem_singleton] at hf; subst hf; unfold FBd Sc.lo Sc.hi; simp only; omega
  | low a b c d _ _ _ _ _ _ _ _ =>
    intro f hf
    simp only [List.mem_cons, List.not_mem_nil, or_false] at hf
    rcases hf with rfl | rfl <;> (unfold FBd Sc.lo Sc.hi; simp only; omega)
theorem Same.bd {k : Knd} {fs : List Fld} (h : Same k fs) : ∀ f ∈ fs, FBd f := by
  cases h with
  | none => intro f hf; cases hf
  | some c h _ => intro f hf; simp only [List.mem_singleton] at hf; subst hf; unfold FBd sameF Sc.lo Sc.hi; simp only; omega
/-- What is known of each kind. -/
structure KOk (k : Knd) : Prop where
  n1 : 1 ≤ k.1.size
  n2 : k.1.size ≤ 20
  lo : 0 ≤ k.2.1
  hi : k.2.2.1 ≤ 8
  len1 : 1 ≤ (Sc.flds k).length
  len : (Sc.flds k).length ≤ 9 ∨ ((Sc.flds k).length ≤ 10 ∧ 0 ≤ Sc.ix (Sc.named btotal) (Sc.flds k))
  bd : ∀ f ∈ Sc.flds k, FBd f
theorem kname_size (n : Nat) (h : n ≤ 2) : 1 ≤ (kname n).size ∧ (kname n).size ≤ 20 := by
  rcases (show n = 0 ∨ n = 1 ∨ n = 2 by omega) with rfl | rfl | rfl <;> decide
theorem ix_snoc {α : Type} {p : α → Bool} {l : List α} {x : α} (h : p x = true) : 0 ≤ Sc.ix p (l ++ [x]) := by
  rcases Int.lt_or_le (Sc.ix p (l ++ [x])) 0 with hn | hn
  · have := Sc.ix_neg hn x (by simp)
    rw [h] at this; cases this
  · exact hn
theorem KOk.total {k : Knd} {nm : ByteArray} (h : KOk k) (hx : Sc.ix (Sc.named btotal) (Sc.flds k) < 0) : KOk (setF k (Sc.flds k ++ [totalF nm])) := by
  have hl : (Sc.flds k).length ≤ 9 := by rcases h.len with h | ⟨_, h⟩ <;> omega
  refine ⟨h.n1, h.n2, h.lo, h.hi, ?_, .inr ⟨?_, ix_snoc (by unfold Sc.named totalF Sc.nm; exact decide_eq_true rfl)⟩, fun f hf => ?_⟩
  · show 1 ≤ (Sc.flds k ++ [totalF nm]).length; rw [List.length_append]; have := h.len1; omega
  · show (Sc.flds k ++ [totalF nm]).length ≤ 10; rw [List.length_append, List.length_singleton]; omega
  · rcases List.mem_append.1 (show f ∈ Sc.flds k ++ [totalF nm] from hf) with hf | hf
    · exact h.bd f hf
    · simp only [List.mem_singleton] at hf; subst hf; unfold FBd totalF Sc.lo Sc.hi; simp only; omega
theorem okLo_bd' {lo : Int} (h : okLo lo) : -3 ≤ lo ∧ lo ≤ 100 := okLo_bd h
theorem Part.ok {nm : ByteArray} {ks : List Knd} {tq : Nat} {h : tq < ks.length} {fs : List Fld} {ks' : List Knd} (hp : Part nm ks tq h fs ks') (hk : ∀ k ∈ ks, KOk k) : (∀ k ∈ ks', KOk k) ∧ ∀ f ∈ fs, FBd f := by
  cases hp with
  | none => exact ⟨hk, fun f hf => by cases hf⟩
  | some lo d _ _ _ _ hx =>
    refine ⟨fun k hkm => ?_, fun f hf => ?_⟩
    · rcases List.mem_or_eq_of_mem_set hkm with hkm | rfl
      · exact hk k hkm
      · exact (hk _ (List.getElem_mem h)).total hx
    · simp only [List.mem_singleton] at hf; subst hf; unfold FBd partF Sc.lo Sc.hi; simp only; omega
theorem Body.ok {nm : ByteArray} {ks : List Knd} {fs : List Fld} {ks' : List Knd} (h : Body nm ks fs ks') (hk : ∀ k ∈ ks, KOk k) : (∀ k ∈ ks', KOk k) ∧ ∀ f ∈ fs, FBd f := by
  cases h with
  | nil lo hlo =>
    have := okLo_bd hlo
    refine ⟨hk, fun f hf => ?_⟩
    simp only [List.mem_singleton] at hf; subst hf; unfold FBd idF Sc.lo Sc.hi; simp only; omega
  | cons _ tq h lo flo hi same part _ hlo _ _ _ _ hs hp =>
    have := okLo_bd hlo
    obtain ⟨p1, p2⟩ := hp.ok hk
    refine ⟨p1, fun f hf => ?_⟩
    simp only [List.mem_append, List.mem_cons, List.not_mem_nil, or_false] at hf
    rcases hf with ((rfl | rfl) | hf) | hf
    · unfold FBd idF Sc.lo Sc.hi; simp only; omega
    · unfold FBd ofF Sc.lo Sc.hi; simp only; omega
    · exact hs.bd f hf
    · exact p2 f hf
theorem Kind.ok {ks : List Knd} {k : Knd} {ks' : List Knd} (h : Kind ks k ks') (hk : ∀ k ∈ ks, KOk k) (hn : ks.length ≤ 2) : (∀ x ∈ ks' ++ [k], KOk x) ∧ ks'.length = ks.length := by
  obtain ⟨h1, h2, h3, h4, h5, hf⟩ := h
  generalize hfs : Sc.flds k = fl at hf
  cases hf with
  | mk fs ks' by_ first second hb hby hp hs =>
    obtain ⟨b1, b2⟩ := hb.ok hk
    obtain ⟨l1, l2, l3⟩ := hb.len
    have hp2 := hp.len
    have hbyl : by_.length ≤ 1 := by rcases hby with rfl | ⟨_, _, _, rfl⟩ <;> simp
    have hsl : second.length ≤ 2 := by rcases hs with rfl | ⟨hs, _⟩; simp; exact hs.len
    refine ⟨fun x hx => ?_, l3⟩
    rcases List.mem_append.1 hx with hx | hx
    · exact b1 x hx
    · simp only [List.mem_singleton] at hx
      subst hx
      obtain ⟨n1, n2⟩ := kname_size ks.length hn
      refine ⟨by rw [h1]; exact n1, by rw [h1]; exact n2, h2, by omega, ?_, .inl ?_, fun f hf => ?_⟩
      · rw [hfs]; simp only [List.length_append]; omega
      · rw [hfs]; simp only [List.length_append]; omega
      · rw [hfs] at hf
        simp only [List.mem_append] at hf
        rcases hf with ((hf | hf) | hf) | hf
        · exact b2 f hf
        · rcases hby with rfl | ⟨_, k0, _, rfl⟩
          · cases hf
          · simp only [List.mem_singleton] at hf; subst hf; unfold FBd byF Sc.lo Sc.hi; simp only; omega
        · exact hp.bd f hf
        · rcases hs with rfl | ⟨hs, _⟩
          · cases hf
          · exact hs.bd f hf
theorem Kind.klen {ks : List Knd} {k : Knd} {ks' : List Knd} (h : Kind ks k ks') : ks'.length = ks.length := by
  obtain ⟨_, _, _, _, _, hf⟩ := h
  generalize Sc.flds k = fl at hf
  cases hf with
  | mk fs ks' by_ first second hb _ _ _ => exact hb.len.2.2
theorem Kinds.ok {ks : List Knd} (h : Kinds ks) : ks.length ≤ 3 → ∀ k ∈ ks, KOk k := by
  induction h with
  | nil => intro _ k hk; cases hk
  | snoc ks k ks' h hk ih =>
    intro hl
    have h3 := hk.klen
    rw [List.length_append, List.length_singleton] at hl
    exact (hk.ok (ih (by omega)) (by omega)).1
end Sg
end Go.Proofs.YtdpcdocaahjeoaaDoor
namespace Go.Proofs.YtdpcdocaahjeoaaDoor
open Go Go.RowKit
section
variable {w W W' : World} {G M : List Nat} {bx : List Box} {rs : List Rw} {r : Rw} {L : List (List Nat → World → Prop)} {P : Program}
theorem step_append_rows {ops : Array Oper} {o : Oper} {a : Act} {K' : Act → World → Prop} {Q : Exit → Act → World → Prop} {E : Prop} (hgd : o.guard = none) (s x : Operand) (t : TypeId)
    (ho : o.op = .call { callee := .builtin .append, args := #[s, x], argTypes := #[t, t] })
    (e : TypeId) (i : TypeInfo) (z : Value) (size bytes : Nat) (ht : P.underlying t = some (.slice e)) (hi : P.info? e = some i) (hz : i.zero = some z)
    (hsize : i.size = size) (hby : i.bytes = bytes) (hzs : z.cells.size = size) (hsz : 0 < size)
    {v : Value} {n : Nat} {xs : List Value} (H : HR w G M bx (⟨e, size, v, n, xs⟩ :: rs) L W) (hs : a.eval s = v)
    (B : Nat) (A : Option Addr) (m c : Nat) (news : List Value) (hx : a.eval x = .slice A m c) (hr : Reads W B size A m news) (h1 : ∀ u ∈ news, u.oneCell' = true)
    (h63 : n + m ≤ maxLen) (hbytes : (n + m) * bytes ≤ 140737488355328)
    (h : ∀ v' W' M', HR w G M' bx (⟨e, size, v', n + m, xs ++ news⟩ :: rs) L W' → (∀ g ∈ M, g ∈ M') → K' (a.put o.dst v') W') : if Region.wanted o (yielded ops a.tmps) = true then Oper.wp P o a W K' Q else E :=
  step_append_any W hgd s x t ho w.heap.size e i z size bytes ht hi hz hsize hby hzs hsz v n xs hs (H.own _ (.head _)) B A m c news hx hr h1 h63 hbytes H.h.bl.size fun v' W' h2 h3 h4 => by
    have hok := H.ok _ (.head _)
    have hap := List.pairwise_cons.1 H.apart
    obtain ⟨M', k1, k2, k3⟩ := H.h.grown hok h3 h4 h2
    refine h v' W' M' ⟨k1, fun r hr => ?_, fun r hr => ?_, List.pairwise_cons.2 ⟨fun s hs g hg1 hg2 => ?_, hap.2⟩⟩ k3
    · rcases List.mem_cons.1 hr with rfl | hr
      · exact k2
      · exact (H.ok r (.tail _ hr)).mono k3
    · rcases List.mem_cons.1 hr with rfl | hr
      · exact h2
      · refine World.ownsRow.kept (H.own r (.tail _ hr)) h3 ?_
        cases he : r.v.ownBlock with
        | none => exact .inl rfl
        | some g => exact .inr fun e => hap.1 r hr g e.symm he
    · rcases h4 with he | he
      · exact hap.1 s hs g (he ▸ hg1) hg2
      · have k1 := (World.ownsRow.lt (H.own s (.tail _ hs)) g hg2).2
        rw [he] at hg1
        injection hg1 with hg1
        omega
end
section
variable {K : MkK} {M : List Nat} {bx : List Box} {rs : List Rw} {r : Rw} {L : List (List Nat → World → Prop)} {W W' : World} {P : Program}
theorem step_append_mk {ops : Array Oper} {o : Oper} {a : Act} {K' : Act → World → Prop} {Q : Exit → Act → World → Prop} {E : Prop} (hgd : o.guard = none) (s x : Operand) (t : TypeId)
    (ho : o.op = .call { callee := .builtin .append, args := #[s, x], argTypes := #[t, t] })
    (e : TypeId) (i : TypeInfo) (z : Value) (size bytes : Nat) (ht : P.underlying t = some (.slice e)) (hi : P.info? e = some i) (hz : i.zero = some z)
    (hsize : i.size = size) (hby : i.bytes = bytes) (hzs : z.cells.size = size) (hsz : 0 < size)
    {v : Value} {n : Nat} {xs : List Value} (H : MkH K M bx (⟨e, size, v, n, xs⟩ :: rs) L W) (hs : a.eval s = v)
    (B : Nat) (A : Option Addr) (m c : Nat) (news : List Value) (hx : a.eval x = .slice A m c) (hr : Reads W B size A m news) (h1 : ∀ u ∈ news, u.oneCell' = true)
    (h63 : n + m ≤ maxLen) (hbytes : (n + m) * bytes ≤ 140737488355328)
    (h : ∀ v' W' M', MkH K M' bx (⟨e, size, v', n + m, xs ++ news⟩ :: rs) L W' → (∀ g ∈ M, g ∈ M') → K' (a.put o.dst v') W') : if Region.wanted o (yielded ops a.tmps) = true then Oper.wp P o a W K' Q else E := by
  obtain ⟨j, hj, H'⟩ := H.it
  exact step_append_rows hgd s x t ho e i z size bytes ht hi hz hsize hby hzs hsz H' hs B A m c news hx hr h1 h63 hbytes fun v' W' M' h2 h3 => h v' W' M' ⟨H.len, H.base, j, hj, h2⟩ h3
end
theorem infoKnd : (Tryd.prog.info? 56).map (fun i => (i.zero, i.size, i.bytes)) = some (some (.agg #[.string ⟨#[]⟩, .int .i64 0, .int .i64 0, .slice none 0 0]), 4, 56) := by kernel_rfl
/-- The state behind the kinds: the schema's box, the result's box, the row of kinds. -/
def SSt (K : MkK) (xb rb : Nat) (ver : Int) (ks : List Knd) (w : World) : Prop :=
  ∃ M kv kxs, MkH K M [(xb, 27, #[.int .i64 ver, kv, .slice none 0 0, .slice none 0 0]), (rb, 27, #[.int .i64 0, .slice none 0 0, .slice none 0 0, .slice none 0 0])] [⟨56, 4, kv, ks.length, kxs⟩] [fun M W => Flat M W ks kxs] w
def kndCells (k : Knd) (A : Option Addr) (c : Nat) : List Value := [.string k.1, .int .i64 k.2.1, .int .i64 k.2.2.1, .slice A (Sc.flds k).length c]
theorem KOk.knd {k : Knd} (h : Sg.KOk k) {G : List Nat} {w : World} {A : Option Addr} {c : Nat} (hs : SlAt G w A (Sc.flds k)) (h1 : (Sc.flds k).length ≤ c) (h2 : c ≤ 9223372036854775807) (h3 : k.2.1 ≤ 8) (h4 : 0 ≤ k.2.2.1) : Mem.rep G w k (kndCells k A c) := by
  have := h.n2
  have := h.lo
  have := h.hi
  exact ⟨[_], _, rfl, ⟨rfl, by omega⟩, [_], _, rfl, ⟨rfl, by unfold inI; omega⟩, [_], _, rfl, ⟨rfl, by unfold inI; omega⟩, A, c, rfl, h1, h2, hs⟩
theorem infoMv : (Tryd.prog.info? 89).map (fun i => (i.zero, i.size, i.bytes)) = some (some (.agg #[.int .i64 0, .int .i64 0]), 2, 16) := by kernel_rfl
theorem infoLif : (Tryd.prog.info? 88).map (fun i => (i.zero, i.size, i.bytes)) = some (some (.agg #[.string ⟨#[]⟩, .slice none 0 0, .slice none 0 0]), 3, 64) := by kernel_rfl
theorem infoRul : (Tryd.prog.info? 91).map (fun i => (i.zero, i.size, i.bytes)) = some (some (.agg #[.string ⟨#[]⟩, .string ⟨#[]⟩, .string ⟨#[]⟩, .string ⟨#[]⟩, .int .i64 0]), 5, 72) := by kernel_rfl
theorem MkH.vform {K : MkK} {M : List Nat} {bx : List Box} {rs : List Rw} {L : List (List Nat → World → Prop)} {W : World} {e : TypeId} {size n : Nat} {v : Value} {xs : List Value} (h : MkH K M bx rs L W) (hr : (⟨e, size, v, n, xs⟩ : Rw) ∈ rs) : ∃ A c, v = .slice A n c := own_form (h.own _ hr)
theorem MkH.recell {K : MkK} {M : List Nat} {bx : List Box} {rs : List Rw} {L : List (List Nat → World → Prop)} {W : World} {N : Nat} {t : TypeId} {cs cs' : Array Value} (h : MkH K M ((N, t, cs) :: bx) rs L W) (e : cs = cs') : MkH K M ((N, t, cs') :: bx) rs L W := e ▸ h
/-- .. and the box of the life cycle, with the row of its moves. -/
def LSt (K : MkK) (xb rb lb N m : Nat) (ver : Int) (ks : List Knd) (mvs : List (Int × Int)) (w : World) : Prop :=
  ∃ M kv kxs mv mxs, MkH K M [(lb, 88, #[.string Sg.blife, .slice (some ⟨N, 0, none⟩) m 4, mv]), (xb, 27, #[.int .i64 ver, kv, .slice none 0 0, .slice none 0 0]), (rb, 27, #[.int .i64 0, .slice none 0 0, .slice none 0 0, .slice none 0 0])] [⟨89, 2, mv, mvs.length, mxs⟩, ⟨56, 4, kv, ks.length, kxs⟩] [fun M W => Flat M W mvs mxs, fun M W => SlAt M W (some ⟨N, 0, none⟩) Sg.states, fun M W => Flat M W ks kxs] w
theorem LSt.mk1 {K : MkK} {M : List Nat} {W : World} {xb rb lb N m l c7 : Nat} {A7 : Option Addr} {ver : Int} {ks : List Knd} {mvs : List (Int × Int)} {p : Int × Int} {kv mv0 : Value} {kxs mxs us : List Value}
    (h : MkH K M [(lb, 88, #[.string Sg.blife, .slice (some ⟨N, 0, none⟩) m 4, mv0]), (xb, 27, #[.int .i64 ver, kv, .slice none 0 0, .slice none 0 0]), (rb, 27, #[.int .i64 0, .slice none 0 0, .slice none 0 0, .slice none 0 0])] [⟨89, 2, .slice A7 l c7, mvs.length + 1, mxs ++ us⟩, ⟨56, 4, kv, ks.length, kxs⟩] [fun M W => Flat M W mvs mxs, fun M W => SlAt M W (some ⟨N, 0, none⟩) Sg.states, fun M W => Flat M W ks kxs] W) (hu : Flat M W [p] us) :
    LSt K xb rb lb N m ver ks (mvs ++ [p]) (W.setCell ⟨lb, 2, none⟩ (.slice A7 l c7)) := by
  have h1 := ((h.add (keeps_flat (mvs ++ [p]) (mxs ++ us)) ((h.fact (.head _)).append hu)).fswap.tail).set0 2 (.slice A7 l c7)
  refine ⟨M, kv, kxs, .slice A7 l c7, mxs ++ us, ?_⟩
  rw [List.length_append, List.length_singleton]
  exact h1
theorem flat_states {G : List Nat} {w : World} : Flat G w Sg.states #[Value.string ⟨#[110, 101, 119]⟩, .string ⟨#[111, 112, 101, 110]⟩, .string ⟨#[100, 111, 110, 101]⟩, .string ⟨#[115, 104, 117, 116]⟩].toList :=
  ⟨[_], _, rfl, ⟨rfl, by decide⟩, [_], _, rfl, ⟨rfl, by decide⟩, [_], _, rfl, ⟨rfl, by decide⟩, [_], _, rfl, ⟨rfl, by decide⟩, rfl⟩
theorem steps_snoc (m : Nat) : Sg.steps m ++ [((m : Int), (m : Int) + 1)] = Sg.steps (m + 1) := by unfold Sg.steps; rw [List.range_succ, List.map_append]; rfl
theorem steps_len (m : Nat) : (Sg.steps m).length = m := by unfold Sg.steps; simp
/-- The state behind the life cycle: rows of rules, of the one life cycle, of kinds. -/
def RSt (K : MkK) (xb rb : Nat) (ver : Int) (ks : List Knd) (lf : Lif) (rls : List Rul) (w : World) : Prop :=
  ∃ M kv kxs lv lxs rv rxs, MkH K M [(xb, 27, #[.int .i64 ver, kv, lv, rv]), (rb, 27, #[.int .i64 0, .slice none 0 0, .slice none 0 0, .slice none 0 0])] [⟨91, 5, rv, rls.length, rxs⟩, ⟨88, 3, lv, 1, lxs⟩, ⟨56, 4, kv, ks.length, kxs⟩] [fun M W => Flat M W rls rxs, fun M W => Flat M W [lf] lxs, fun M W => Flat M W ks kxs] w
theorem take_states (m : Nat) (h : m ≤ 4) : (Sg.states.take m).length = m := by rw [List.length_take]; show min m 4 = m; omega
theorem lif_rep {G : List Nat} {w : World} {N m n c : Nat} {A : Option Addr} {mvs : List (Int × Int)} (hs : SlAt G w (some ⟨N, 0, none⟩) Sg.states) (hm : m ≤ 4) (hv : SlAt G w A mvs) (hn : n = mvs.length) (h1 : n ≤ c) (h2 : c ≤ 9223372036854775807) :
    Mem.rep G w ((Sg.blife, Sg.states.take m, mvs) : Lif) [.string Sg.blife, .slice (some ⟨N, 0, none⟩) m 4, .slice A n c] := by
  subst hn
  exact ⟨[_], _, rfl, ⟨rfl, (by decide : Sg.blife.size ≤ 9223372036854775807)⟩, [_], _, rfl, ⟨_, 4, by rw [take_states m hm], by rw [take_states m hm]; exact hm, by omega, hs.take m⟩, A, c, rfl, h1, h2, hv⟩
theorem rule_bd {k : Knd} {r : Rul} {b : Bool} (h : Sg.Rule k r b) (hk : Sg.KOk k) : r.1.size ≤ 100 ∧ r.2.1.size ≤ 100 ∧ r.2.2.1.size ≤ 100 ∧ r.2.2.2.1.size ≤ 100 ∧ -10000 ≤ r.2.2.2.2 ∧ r.2.2.2.2 ≤ 10000 := by
  have h1 := hk.n2
  have hx : (k.1.extract 0 1).size ≤ 20 := by rw [ByteArray.size_extract]; omega
  cases h with
  | none _ => exact ⟨by decide, by decide, by decide, by decide, by decide, by decide⟩
  | low z _ _ _ => exact ⟨by rw [ByteArray.size_append]; have : Sg.border.size = 5 := rfl; omega, by show k.1.size ≤ 100; omega, (by decide : Sg.blow.size ≤ 100), (by decide : Sg.bhigh.size ≤ 100), by show _ ≤ z - 2; omega, by show z - 2 ≤ _; omega⟩
  | most i hi z _ _ _ =>
    have hb := hk.bd _ (List.getElem_mem hi)
    unfold Sg.FBd at hb
    exact ⟨by rw [ByteArray.size_append]; have : Sg.bmost.size = 4 := rfl; omega, by show k.1.size ≤ 100; omega, (by decide : Sg.bsz.size ≤ 100), (by decide : Sg.be.size ≤ 100), by show _ ≤ Sc.lo (Sc.flds k)[i] + z; omega, by show Sc.lo (Sc.flds k)[i] + z ≤ _; omega⟩
  | least i hi z _ _ _ =>
    have hb := hk.bd _ (List.getElem_mem hi)
    unfold Sg.FBd at hb
    exact ⟨by rw [ByteArray.size_append]; have : Sg.bleast.size = 5 := rfl; omega, by show k.1.size ≤ 100; omega, (by decide : Sg.be.size ≤ 100), (by decide : Sg.bsz.size ≤ 100), by show _ ≤ z - Sc.hi (Sc.flds k)[i]; omega, by show z - Sc.hi (Sc.flds k)[i] ≤ _; omega⟩
theorem rule_rep {G : List Nat} {w : World} {k : Knd} {r : Rul} {b : Bool} (h : Sg.Rule k r b) (hk : Sg.KOk k) : Mem.rep G w r (rulCells r).toList := by
  obtain ⟨h1, h2, h3, h4, h5, h6⟩ := rule_bd h hk
  exact ⟨[_], _, rfl, ⟨rfl, by omega⟩, [_], _, rfl, ⟨rfl, by omega⟩, [_], _, rfl, ⟨rfl, by omega⟩, [_], _, rfl, ⟨rfl, by omega⟩, ⟨rfl, by unfold inI; omega⟩⟩
end Go.Proofs.YtdpcdocaahjeoaaDoor
