/- Parts of the proof, joined: SxB0, SxB1, SxMet. -/
import Derived.Test.YtmplaikgbeeikaaGreatDoorQ3
import Derived.Test.YtmplaikgbeeikaaGreatDoorQ14
import Derived.Test.YtmplaikgbeeikaaGreatDoorQ15
import Derived.Test.YtmplaikgbeeikaaGreatDoorQ16
import Derived.Test.YtmplaikgbeeikaaGreatDoorCards
import Derived.Test.YtmplaikgbeeikaaGreatDoorTie
import Derived.WalkLawsBesides
import Derived.Carry
import Derived.ChangeSlices
import Derived.Lib.SmallJoins
import Derived.WalkKit
import Derived.ProofKit
import Derived.OpenShut
import Derived.LaidMore
import Derived.Lay
import Derived.LaidOnce
import Derived.Stop.LaidErr
import Derived.Deep.DeepHandedRow
import Derived.Deep.DeepWitnessRowRef
import Derived.Lib.LaidTab
import Derived.Below
import Derived.ChangeSame
set_option linter.unusedVariables false
set_option linter.unusedSimpArgs false
set_option linter.unusedSectionVars false
namespace Go.Proofs.YtmplaikgbeeikaaGreatDoor
open Go Go.RowKit
/-- A made schema: its value, open, and that it is valid. -/
def GSchP (w : World) (e : Ending) (w' : World) : Prop := ∃ (x : Sch) (A : Option Addr) (c : Nat) (B : Option Addr) (d : Nat) (C : Option Addr) (f nk nl nr : Nat), e = .returned (.agg #[.int .i64 x.1, .slice A nk c, .slice B nl d, .slice C nr f]) ∧ Sx.valid x = 0 ∧ Mem.rep [] w' x [.int .i64 x.1, .slice A nk c, .slice B nl d, .slice C nr f] ∧ Below w.heap.size w w'
theorem gsch_any (l : List Int) (A : Option Addr) (c : Nat) (w : World) (hs : SlAt [] w A l) (hc : l.length ≤ c) (hm : c ≤ 9223372036854775807) : Calls Tryz.prog 9 #[.slice A l.length c] w (GSchP w) := by
  refine (gschema_any l A c w hs hc hm).mono ?_
  rintro e w' ⟨x, v, rfl, hx, ⟨us, rfl, hr⟩, hb⟩
  obtain ⟨A1, c1, A2, c2, A3, c3, rfl, _⟩ := rep_sch hr
  exact ⟨x, A1, c1, A2, c2, A3, c3, _, _, _, rfl, hx.valid, hr, hb⟩
theorem src_len {x : Sch} (h : Sx.valid x = 0) : (Sx.source x).length ≤ 8192 := (Sx.valid_ok h).2
theorem short_le (m : Nat) (s : ByteArray) : (shortB m s).size ≤ m := by
  unfold shortB
  split
  · rw [ByteArray.size_extract]; omega
  · omega
theorem flat_strs {G : List Nat} {w : World} : ∀ {l : List ByteArray}, (∀ t ∈ l, t.size ≤ 1000000) → Flat G w l (l.map Value.string)
  | [], _ => rfl
  | t :: l, h => ⟨[.string t], l.map Value.string, rfl, ⟨rfl, by have := h t (.head _); omega⟩, flat_strs fun s hs => h s (.tail _ hs)⟩
theorem tdiv6_in {n : Int} (h : inI n) : inI (n.tdiv 6) := tdiv_in n 6 h.1 h.2 (by omega)
end Go.Proofs.YtmplaikgbeeikaaGreatDoor
namespace Go.Proofs.YtmplaikgbeeikaaGreatDoor
open Go Go.RowKit
theorem pparse_open (s : ByteArray) (w : World) (hs : s.size ≤ 9223372036854775807) (he : SEnv w) {x : Sch} {k e : Int} (hp : Sx.parse s.data.toList = (x, k, e)) : Calls Tryz.prog 13 #[.string s] w fun e' w' => ∃ (A : Option Addr) (c : Nat) (B : Option Addr) (d : Nat) (C : Option Addr) (f nk nl nr : Nat), e' = .returned (.tuple #[.agg #[.int .i64 x.1, .slice A nk c, .slice B nl d, .slice C nr f], .int .i64 k, .int .i64 e]) ∧ Mem.rep [] w' x [.int .i64 x.1, .slice A nk c, .slice B nl d, .slice C nr f] ∧ Below w.heap.size w w' := by
  refine (pparse_any s w hs he).mono ?_
  rintro e' w' ⟨us, h1, h2, h3⟩
  rw [hp] at h1 h2
  obtain ⟨A, c, B, d, C, f, rfl, _⟩ := rep_sch h2
  exact ⟨A, c, B, d, C, f, _, _, _, h1, h2, h3⟩
theorem take_list (t : ByteArray) (k : Nat) : (t.extract 0 k).data.toList = t.data.toList.take k := by
  rw [ByteArray.data_extract, Array.toList_extract, List.extract_eq_take_drop]
  simp
set_option maxRecDepth 100000 in
set_option maxHeartbeats 16000000 in
theorem law_beginnings (l : List Int) (A : Option Addr) (c : Nat) (at_ how by_ : Int) (raw : ByteArray) (w : World) (he : SEnv w) (hl : SlAt [] w A l) (hc : l.length ≤ c) (hc2 : c ≤ 9223372036854775807) (h1 : inI at_) (h2 : inI how) (h3 : inI by_) (h4 : raw.size ≤ 9223372036854775807) :
    Calls Tryz.prog 6 #[.slice A l.length c, .int .i64 at_, .int .i64 how, .int .i64 by_, .string raw] w fun e w' => e = .returned (.bool true) ∧ Below w.heap.size w w' := by
  have CG := Lib.hid (gsch_any l A c w hl hc hc2)
  have CSR := Lib.hid (fun (x : Sch) (us : List Value) (W : World) (hr : Mem.rep [] W x us) (hv : Sx.valid x = 0) => rsource_any x us W hr (valid_ok hv))
  have CC := Lib.hid (fun (s : ByteArray) W (hs : s.size ≤ 10000) => changed_any s at_ how by_ W (by omega) h1 h2 h3)
  have e6 : wrap64 (how.tdiv 6) = how.tdiv 6 := by have := tdiv6_in h2; unfold inI at this; unfold wrap64; omega
  have h6 := tdiv6_in h2
  obtain ⟨hq, hhq⟩ : ∃ z, how.tdiv 6 = z := ⟨_, rfl⟩
  rw [hhq] at h6
  have CC2 := Lib.hid (fun (s : ByteArray) W (hs : s.size ≤ 40000) => changed_any s by_ hq at_ W (by omega) h3 h6 h1)
  have e8 : wrap64 (how.tdiv 6) = hq := e6.trans hhq
  have CSH := Lib.hid (fun W => (show Calls Tryz.prog 12 #[.string raw, .int .i64 100] W _ from short_any 100 (by omega) raw W h4))
  have hfew := short_le 100 raw
  obtain ⟨few, hfe⟩ : ∃ z, shortB 100 raw = z := ⟨_, rfl⟩
  rw [hfe] at hfew CSH
  have CL := Lib.hid lives_any
  have HE := Lib.hid he
  have CP := Lib.hid (fun (s : ByteArray) (x : Sch) (k e : Int) (W : World) (hb : Below w.heap.size w W) (hs : s.size ≤ 1000000) (hp : Sx.parse s.data.toList = (x, k, e)) => pparse_open s W (by omega) (he.to hb) hp)
  unfold GSchP at CG
  unfold StrP at CC CC2
  have HB := Lib.hid (Below.refl w.heap.size w)
  clear he hl hc hc2 h1 h2 h3 h4 h6 e6 hhq hfe
  generalize l.length = ll at *
  go_enter Tryz.func6, Tryz.ntmps6
  go_upto_region 2 with (first | (go_at_call 9; ((with_reducible refine (CG.out).mono ?_)); rintro e w1 ⟨x, A1, c1, B1, d1, C1, f1, nk, nl, nr, rfl, hv, hr, hb⟩; have CS1 := Lib.hid (CSR.out x _ w1 hr hv); have HSL := Lib.hid (src_len hv); replace HB := Lib.hid hb; clear hv hr hb) | (go_at_call 8; refine (CS1.out).mono ?_; rintro e w2 ⟨rfl, hb⟩; replace HB := Lib.hid (HB.out.trans (hb.mono HB.out.size)); clear hb CS1) | (go_at_call 11; refine (CC.out _ _ (show (Sx.source x).toArray.size ≤ _ by rw [List.size_toArray]; have := HSL.out; omega)).mono ?_; rintro e w3 ⟨s, rfl, hs, hb⟩; replace HB := Lib.hid (HB.out.trans (hb.mono HB.out.size)); replace hs : s.size ≤ 2 * (Sx.source x).toArray.size + 16 := hs; rw [List.size_toArray] at hs; replace hs : s.size ≤ 20000 := (by have := HSL.out; omega); clear hb HSL))
  go_upto_region 3 with (first | (go_at_call 11; ((with_reducible refine (CC2.out _ _ (by omega)).mono ?_)); rintro e w4 ⟨u, rfl, hu, hb⟩; replace HB := Lib.hid (HB.out.trans (hb.mono HB.out.size)); clear hb) | (go_at_call 12; ((with_reducible refine (CSH.out _).mono ?_)); rintro e w5 ⟨rfl, rfl⟩))
  have HSL := Lib.hid (show SlAt [] (w4.alloc (.cells #[.string s, .string u, .string few] 9)) (some ⟨w4.heap.size, 0, none⟩) [s, u, few] from SlAt.of_blk (flat_strs (l := [s, u, few]) (fun t ht => by
    simp only [List.mem_cons, List.not_mem_nil, or_false] at ht
    rcases ht with rfl | rfl | rfl <;> omega)) (Blk.new _ _ _) (by simp))
  have HTS := Lib.hid (show ∀ t ∈ [s, u, few], t.size ≤ 1000000 from fun t ht => by
    simp only [List.mem_cons, List.not_mem_nil, or_false] at ht
    rcases ht with rfl | rfl | rfl <;> omega)
  replace HB := Lib.hid (HB.out.alloc HB.out.size (.cells #[.string s, .string u, .string few] 9))
  generalize w4.alloc (.cells #[.string s, .string u, .string few] 9) = w5 at *
  obtain ⟨Nt, hNt⟩ : ∃ n, w4.heap.size = n := ⟨_, rfl⟩
  rw [hNt] at HSL ⊢
  obtain ⟨ts, hts⟩ : ∃ l : List ByteArray, [s, u, few] = l := ⟨_, rfl⟩
  have HTL := Lib.hid (show ts.length = 3 by rw [← hts]; rfl)
  rw [hts] at HSL HTS
  clear hts hNt hu hs hfew e8 CSR CC CC2 CSH CG
  go_wp2_with fail
  go_loopg [13] 3 (fun r i wr => ∃ j : Nat, j + r = 3 ∧ i = .int .i64 j ∧ Below w5.heap.size w5 wr)
  case atStart => exact ⟨0, by omega, rfl, Below.refl _ _⟩
  case round =>
    obtain ⟨j, hj, rfl, hT⟩ := hrel
    obtain ⟨wo, rfl⟩ : ∃ wo : World, wo = wr := ⟨_, rfl⟩
    have HW := Lib.hid hT
    clear hT
    have HBO := Lib.hid (HB.out.trans (HW.out.mono HB.out.size))
    by_cases hlt : j < 3
    · have hjp : j < ts.length := by rw [HTL.out]; exact hlt
      have j0 : (0 : Int) ≤ (j : Int) := Int.natCast_nonneg _
      have j1 : (j : Int) < 3 := by omega
      obtain ⟨b, o, hA, _, d0, _⟩ := str_at (HSL.out.keep (Chg.of_below HW.out)) j hjp
      injection hA with hA
      injection hA with hA1 hA2 _
      subst hA1 hA2
      have hsz := HTS.out _ (List.getElem_mem hjp)
      obtain ⟨t, ht⟩ : ∃ t, ts[j] = t := ⟨_, rfl⟩
      rw [ht] at d0 hsz
      rw [Nat.zero_add] at d0
      have HD := Lib.hid (fun (W : World) (hb : Below wo.heap.size wo W) => (hb.cell (World.block_lt_of_cell? _ _ d0)).trans d0)
      clear ht
      obtain ⟨y, k, e, hpr⟩ : ∃ y k e, Sx.parse t.data.toList = (y, k, e) := ⟨_, _, _, rfl⟩
      have CP1 := Lib.hid (CP.out t y k e wo HBO.out hsz hpr)
      by_cases he2 : e = 2
      · subst he2
        obtain ⟨p1, p2, y2, jj, f2, p3, p4, p5, p6⟩ := Sx.parse_before hpr
        obtain ⟨kn, rfl⟩ : ∃ n : Nat, k = n := ⟨k.toNat, by omega⟩
        rw [show ((kn : Int)).toNat = kn from rfl, ← take_list] at p3
        rw [strLen] at p2
        have hkn : kn ≤ t.size := by omega
        have CP2 := Lib.hid (fun (W : World) (hb : Below w.heap.size w W) => CP.out (t.extract 0 kn) y2 jj f2 W hb (by rw [ByteArray.size_extract]; omega) p3)
        have q1 : ¬ ((kn : Int) < 0) := by omega
        have q2 : ¬ ((t.size : Int) < (kn : Int)) := by omega
        have q3 : (kn : Int) ≤ (t.size : Int) := by omega
        have q4 : (0 : Int) ≤ (kn : Int) := by omega
        have HP4 := Lib.hid p4; have HP5 := Lib.hid p5; have HP6 := Lib.hid p6
        clear p1 p2 p3 p4 p5 p6 hpr hsz
        go_upto_region 7 with (go_at_call 13; ((with_reducible refine (CP1.out).mono ?_)); rintro e' w6 ⟨A2, c2, B2, d2, C2, g2, nk2, nl2, nr2, rfl, _, hb⟩; have HX := Lib.hid hb; clear hb)
        replace HX := Lib.hid (HX.out.alloc HX.out.size (.cells #[.int .i64 y.1, .slice A2 nk2 c2, .slice B2 nl2 d2, .slice C2 nr2 g2] 28))
        generalize w6.alloc (.cells #[.int .i64 y.1, .slice A2 nk2 c2, .slice B2 nl2 d2, .slice C2 nr2 g2] 28) = w7 at *
        replace d0 := HD.out _ HX.out
        replace HW := Lib.hid (HW.out.trans (HX.out.mono HW.out.size))
        have CP3 := Lib.hid (CP2.out w7 (HB.out.trans (HW.out.mono HB.out.size)))
        clear CP2 CP1 HX
        rcases HP6.out with rfl | rfl | rfl
        · obtain rfl : jj = 0 := HP5.out (by decide)
          go_wp2_with (go_at_call 13; ((with_reducible refine (CP3.out).mono ?_)); rintro e' w8 ⟨A3, c3, B3, d3, C3, g3, nk3, nl3, nr3, rfl, _, hb⟩; replace HW := Lib.hid (HW.out.trans (hb.mono HW.out.size)); clear hb)
          replace HW := Lib.hid (HW.out.alloc HW.out.size (.cells #[.int .i64 y2.1, .slice A3 nk3 c3, .slice B3 nl3 d3, .slice C3 nr3 g3] 28))
          go_roundg (gk - 1)
          case measure => omega
          case rel => exact ⟨j + 1, by omega, by go_num, HW.out⟩
        · obtain rfl : jj = kn := HP4.out rfl
          go_wp2_with (go_at_call 13; ((with_reducible refine (CP3.out).mono ?_)); rintro e' w8 ⟨A3, c3, B3, d3, C3, g3, nk3, nl3, nr3, rfl, _, hb⟩; replace HW := Lib.hid (HW.out.trans (hb.mono HW.out.size)); clear hb)
          replace HW := Lib.hid (HW.out.alloc HW.out.size (.cells #[.int .i64 y2.1, .slice A3 nk3 c3, .slice B3 nl3 d3, .slice C3 nr3 g3] 28))
          go_roundg (gk - 1)
          case measure => omega
          case rel => exact ⟨j + 1, by omega, by go_num, HW.out⟩
        · obtain rfl : jj = 0 := HP5.out (by decide)
          go_wp2_with (go_at_call 13; ((with_reducible refine (CP3.out).mono ?_)); rintro e' w8 ⟨A3, c3, B3, d3, C3, g3, nk3, nl3, nr3, rfl, _, hb⟩; replace HW := Lib.hid (HW.out.trans (hb.mono HW.out.size)); clear hb)
          replace HW := Lib.hid (HW.out.alloc HW.out.size (.cells #[.int .i64 y2.1, .slice A3 nk3 c3, .slice B3 nl3 d3, .slice C3 nr3 g3] 28))
          go_roundg (gk - 1)
          case measure => omega
          case rel => exact ⟨j + 1, by omega, by go_num, HW.out⟩
      · have q1 : (e == 2) = false := by simpa using he2
        have q2 : (e != 2) = true := by simpa using he2
        clear hpr hsz he2
        go_wp2_with (go_at_call 13; ((with_reducible refine (CP1.out).mono ?_)); rintro e' w6 ⟨A2, c2, B2, d2, C2, g2, nk2, nl2, nr2, rfl, _, hb⟩; replace HW := Lib.hid (HW.out.trans (hb.mono HW.out.size)); clear hb)
        replace HW := Lib.hid (HW.out.alloc HW.out.size (.cells #[.int .i64 y.1, .slice A2 nk2 c2, .slice B2 nl2 d2, .slice C2 nr2 g2] 28))
        go_roundg (gk - 1)
        case measure => omega
        case rel => exact ⟨j + 1, by omega, by go_num, HW.out⟩
    · have j1 : ¬ (j : Int) < 3 := by omega
      have CLE := Lib.hid (CL.out wo (HE.out.to HBO.out))
      go_wp2_with (go_at_call 16; ((with_reducible refine (CLE.out).mono ?_)); rintro e w6 ⟨rfl, hb⟩; replace HBO := Lib.hid (HBO.out.trans (hb.mono HBO.out.size)); clear hb)
      go_ret
      exact ⟨rfl, HBO.out⟩
end Go.Proofs.YtmplaikgbeeikaaGreatDoor
namespace Go.Proofs.YtmplaikgbeeikaaGreatDoor
open Go Go.ChangeShapes Go.WideShapes Go.ChangeAt Go.RowKit
theorem own : ownKnob Tryz.prog.godebug = none := by kernel_rfl
theorem gPowS : Tryz.prog.globalNamed "internal/strconv.uint64pow10" = some 5 := by kernel_rfl
theorem gB64S : Tryz.prog.globalNamed "math/bits.deBruijn64tab" = some 8 := by kernel_rfl
theorem gWordsS : Tryz.prog.globalNamed "diorama/schema.words" = some 0 := by kernel_rfl
theorem tPow : (Tryz.prog.globals[5]?).map (·.type) = some 213 := by kernel_rfl
theorem tWords : (Tryz.prog.globals[0]?).map (·.type) = some 129 := by kernel_rfl
theorem tSyn : (Tryz.prog.globals[1]?).map (·.type) = some 124 := by kernel_rfl
theorem tRng : (Tryz.prog.globals[2]?).map (·.type) = some 124 := by kernel_rfl
theorem rowErr (u : TypeId) (h : Tryz.prog.typeName? 3 u = some "*errors.errorString") : u = 196 :=
  typeName_ptr_named (nm := "errors.errorString") (by rw [show ("*" ++ "errors.errorString" : String) = "*errors.errorString" from by decide]; kernel_rfl) (by kernel_rfl) (by decide) u (by rw [show ("*" ++ "errors.errorString" : String) = "*errors.errorString" from by decide]; exact h)
/-- The list of the library's variables, the same on every row. -/
abbrev laidAll : List (String × DataW Unit) := Rows.schemaBeginningsRow.laid
/-- An array of texts that reads as the list holds the list's texts, cell for cell. -/
theorem cells_of_strs {H : Type} {enc : TypeId × Value → H} {P : Program} {w : World} {base : Nat} {sp : Nat → Bool} {held : Bool} {fuel : Nat} {t e : TypeId} {n : Nat} {cs : List Value} {zs : List (List UInt8)} {p : List MemPlace}
    (ht : P.underlying t = some (.array n e)) (he : P.underlying e = some .string) (hce : P.cellsOf e = 1) (hct : P.cellsOf t = n)
    (h : DataW.trod enc P w base sp held fuel t cs = some (.agg (zs.map fun z => .lit (.string z)), p)) : cs = zs.map fun z => Value.string (Sx.ofT z) := by
  cases fuel with
  | zero => simp [DataW.trod] at h
  | succ fuel =>
    simp only [DataW.trod, ht, hce, hct, Nat.mul_one] at h
    split at h
    · rename_i hl
      obtain ⟨xs, hm, hx⟩ := Option.map_eq_some_iff.1 h
      have hxs : xs.map (·.1) = zs.map fun z => (DataW.lit (.string z) : DataW H) := by
        have := congrArg Prod.fst hx
        simpa using this
      have hxl : xs.length = n := by simpa using Lib.mapM_length hm
      have hzl : zs.length = n := by
        have := congrArg List.length hxs
        simp at this
        omega
      apply List.ext_getElem?
      intro i
      by_cases hi : i < n
      · obtain ⟨b, hb, hf⟩ := Lib.mapM_at hm i i (by simp [hi])
        obtain ⟨z, hc, rfl, _⟩ := DataW.trod_string he hf
        have h1 : cs[i]? = some (.string z) := by
          have := congrArg (·[0]?) hc
          simpa [List.getElem?_take, List.getElem?_drop] using this
        have h2 : (xs.map (·.1))[i]? = some (DataW.lit (.string z.data.toList) : DataW H) := by simp [hb]
        rw [hxs] at h2
        simp only [List.getElem?_map, Option.map_eq_some_iff, DataW.lit.injEq, Lit.string.injEq] at h2
        obtain ⟨z', hz', h3⟩ := h2
        rw [h1, List.getElem?_map, hz']
        have : Sx.ofT z' = z := by rw [h3]; unfold Sx.ofT; simp
        rw [← this]; rfl
      · rw [List.getElem?_eq_none (by omega), List.getElem?_eq_none (by simp; omega)]
    · cases h
theorem size_of_var {P : Program} {w : World} {n : String} {g : Nat} {cs : Array Value} (hg : P.globalNamed n = some g) (h : w.var? P n = some cs) : g < w.heap.size := by
  unfold World.var? at h
  rw [hg] at h
  rcases Nat.lt_or_ge g w.heap.size with h' | h'
  · exact h'
  · simp [Array.getElem?_eq_none h'] at h
theorem senv_of_laid {W : World} (hL : laidMetH Tryz.prog laidAll W) : SEnv W := by
  have h : laidMet Tryz.prog laidAll W := hL
  have h2 := h.tail
  have h3 := h2.tail
  have h4 := h3.tail
  have h5 := h4.tail
  have h6 := h5.tail
  have h7 := h6.tail
  obtain ⟨a1, s1, hv1, _⟩ := laid_sentinel h5 gRng tRng Tryz.underlying124 rowErr Tryz.underlying196 Tryz.underlying198 rfl rfl Tryz.underlying9 (by kernel_rfl) (by kernel_rfl)
  obtain ⟨a0, s0, hv0, _⟩ := laid_sentinel h6 gSyn tSyn Tryz.underlying124 rowErr Tryz.underlying196 Tryz.underlying198 rfl rfl Tryz.underlying9 (by kernel_rfl) (by kernel_rfl)
  have hT : Lib.TabIs Tryz.prog W "internal/strconv.uint64pow10" .u64 Lib.pow10Tab := Lib.tabIs_of_head gPowS tPow Tryz.underlying213 Tryz.underlying183 (by kernel_rfl) (by kernel_rfl) h3
  have hp : 5 < W.heap.size := by
    unfold Lib.TabIs at hT
    exact size_of_var gPowS hT
  obtain ⟨_, ⟨g4, t4, cs, _, _, _, hg4, ht4, hv4, hd, _⟩, _⟩ := h7
  obtain rfl := Option.some.inj (gWordsS.symm.trans hg4)
  obtain rfl := Option.some.inj (tWords.symm.trans ht4)
  have hcs := cells_of_strs (zs := Sx.wordsL) Tryz.underlying129 Tryz.underlying9 (by kernel_rfl) (by kernel_rfl) hd
  have hs := size_of_var gSyn hv0
  have hr := size_of_var gRng hv1
  have hw := size_of_var gWordsS hv4
  refine ⟨⟨hT, hp⟩, ⟨_, _, hv0⟩, ⟨_, _, hv1⟩, fun k hk => ?_, ?_⟩
  · rw [World.var?_cell gWordsS hv4 k, ← Array.getElem?_toList, hcs]
    rw [List.getElem?_map, List.getElem?_eq_getElem (show k < Sx.wordsL.length from hk)]
    unfold wdS
    rw [List.getD_eq_getElem?_getD, List.getElem?_eq_getElem (show k < Sx.wordsL.length from hk)]
    rfl
  · obtain ⟨_, ⟨g5, _, _, _, _, _, hg5, _, hv5, _⟩, _⟩ := h2
    obtain rfl := Option.some.inj (gB64S.symm.trans hg5)
    exact Nat.lt_of_le_of_lt (by decide) (size_of_var gB64S hv5)
theorem laid_met (os : Os) (args : Array Value) : laidMet Tryz.prog laidAll ((World.laidAll Tryz.prog os laidAll).forCall (fun _ _ => 0) ⟨#[], args, []⟩).memory :=
  laidMet_laidAll args (by kernel_rfl) (by kernel_rfl)
section
variable {H : Type} {enc : TypeId × Value → H} {P : Program}
/-- A call that left everything that stood as it was, answers with plain results, and has no variables to tell of. -/
theorem post_low {f : Func} {s : ChangeSpec} {apart fresh handsOn again : Bool} {W W' : World} {args : Array Value} {v : Value} {ds gs : List (DataW H)} {before : List MemPlace}
    (hW : DataW.Whole enc P f.params.toList s.vars apart W args.toList ds gs before) (hb : Below W.heap.size W W')
    (hres : ∀ (b : Nat) (sp : Nat → Bool) (hd : Bool), DataW.TrodAll enc P W' b sp hd f.resultTypes.toList (v.resultList f.resultTypes.size) (s.fn H (ds ++ gs)).results [])
    (hargs : ∀ sp : Nat → Bool, (∀ p ∈ before, sp p.block = true) → DataW.TrodAll enc P W' 0 sp true f.params.toList args.toList (s.fn H (ds ++ gs)).args before)
    (hvars : ∀ sp : Nat → Bool, DataW.TrodVars enc P W' sp s.vars (s.fn H (ds ++ gs)).vars [])
    (hok : ∀ (j : Nat) (t : TypeId) (r : Value), f.resultTypes[j]? = some t → (v.resultList f.resultTypes.size)[j]? = some r → Value.okWide P W' .any 0 t r) :
    s.post enc P f apart fresh handsOn again W args v W' := by
  have hold : ∀ p ∈ before, (fun b => decide (b < W.heap.size)) p.block = true := fun p hp => decide_eq_true (hW.lt p hp)
  have hz2 := hW
  obtain ⟨_, _, _, _, _, hz, hn⟩ := hz2
  have hwhole : DataW.TrodAll enc P W' 0 (fun _ => true) true f.params.toList args.toList (s.fn H (ds ++ gs)).args before := hargs _ (fun _ _ => rfl)
  refine ⟨ds, gs, before, [], before, [], hW, hres _ _ _, hargs _ hold, hvars _, World.keptBut_mono (fun p hp => ⟨hp, .inr (.inl hp)⟩) (hb.frame (· ∈ before)), fun _ => ?_⟩
  refine ⟨hok, _, _, ([] ++ before) ++ [], ⟨[] ++ before, [], trodAll_append hwhole (hres _ _ _), hvars _, rfl, ?_, ?_⟩, ?_⟩
  · intro b off hp
    have hin : MemPlace.cell b off ∈ before := by simpa using hp
    rw [hb.frozen (hW.lt _ hin)]
    exact hz b off hin
  · intro ha
    have := hn ha
    simpa using this
  · intro p hp _
    simpa using hp
end
theorem laidOut : laidOutB Tryz.prog = true := by kernel_rfl
section
variable {H : Type} {enc : TypeId × Value → H} {P : Program}
theorem trodAll_stays (hl : laidOutB P = true) {W W' : World} {sp : Nat → Bool} : ∀ (ts : List TypeId) (vs : List Value) (ds : List (DataW H)) (ps : List MemPlace),
    (ts.all fun t => P.readableRec t && decide (t < P.types.size)) = true → DataW.TrodAll enc P W 0 (fun _ => true) true ts vs ds ps → (∀ p ∈ ps, W.sameAt W' p) → (∀ p ∈ ps, sp p.block = true) → DataW.TrodAll enc P W' 0 sp true ts vs ds ps
  | [], vs, ds, ps, _, h, _, _ => by
    match vs, ds, h with
    | [], [], h => exact h
  | t :: ts, vs, ds, ps, ht, h, hs, hp => by
    obtain ⟨v, vs', d, ds', p, q, rfl, rfl, rfl, h1, h2⟩ := trodAll_cons h
    simp only [List.all_cons, Bool.and_eq_true, decide_eq_true_eq] at ht
    exact trodAll_cons_mk (WideElems.Trod_stays hl ht.1.1 ht.1.2 h1 (fun x hx => hs x (List.mem_append_left _ hx)) (fun x hx => hp x (List.mem_append_left _ hx)))
      (trodAll_stays hl ts vs' ds' q ht.2 h2 (fun x hx => hs x (List.mem_append_right _ hx)) (fun x hx => hp x (List.mem_append_right _ hx)))
/-- A law that says true, and leaves what it was handed as it was. -/
theorem post_law {f : Func} {s : ChangeSpec} {apart fresh handsOn again : Bool} {W W' : World} {args : Array Value} {ds : List (DataW H)} {before : List MemPlace} {tb : TypeId}
    (hl : laidOutB P = true) (hts : (f.params.toList.all fun t => P.readableRec t && decide (t < P.types.size)) = true) (hr : f.resultTypes = #[tb]) (htb : P.underlying tb = some .bool)
    (hW : DataW.Whole enc P f.params.toList s.vars apart W args.toList ds [] before) (hb : Below W.heap.size W W') (hv : s.vars = [])
    (hs : s.fn H ds = { results := [.lit (.bool true)], args := ds }) : s.post enc P f apart fresh handsOn again W args (.bool true) W' := by
  have hW0 := hW
  obtain ⟨p, q, hA, hV, hpq, hz, hn⟩ := hW
  have hq : q = [] := by rw [hv] at hV; exact (trodVars_none hV).2
  have hA' : DataW.TrodAll enc P W 0 (fun _ => true) true f.params.toList args.toList ds before := by
    have e : before = p := by rw [hpq, hq, List.append_nil]
    rw [e]; exact hA
  refine post_low hW0 hb ?_ ?_ ?_ (ok_one hr rfl (okWide_bool_mk htb _))
  · intro b sp hd
    rw [List.append_nil, hs]
    show DataW.TrodAll enc P W' b sp hd f.resultTypes.toList ((Value.bool true).resultList f.resultTypes.size) [.lit (.bool true)] []
    rw [hr]
    exact trodAll_cons_mk (shut_bool htb _) trodAll_mk0
  · intro sp hsp
    rw [List.append_nil, hs]
    exact trodAll_stays hl _ _ _ _ hts hA' (fun x hx => hb.same (hW0.lt x hx)) hsp
  · intro sp
    rw [List.append_nil, hs, hv]
    rfl
end
theorem inI_of_wf {x : Int} (h : (Lit.int .i64 x).wf = true) : inI x := by
  have h2 : -9223372036854775808 ≤ x ∧ x ≤ 9223372036854775807 := by
    simp [Lit.wf, IntKind.min, IntKind.max, IntKind.signed, IntKind.bits] at h
    omega
  exact h2
section
variable {H : Type} {enc : TypeId × Value → H} {P : Program} {W : World} {t e : TypeId} {v : Value} {d : DataW H} {ps : List MemPlace} {b0 : Nat}
theorem arg_int (ht : P.underlying t = some (.int .i64)) (hv : Value.okWide P W .any b0 t v) (h : DataW.Trod enc P W 0 (fun _ => true) true t v d ps) : ∃ a, v = .int .i64 a ∧ inI a := by
  obtain ⟨a, rfl, _, _, hw⟩ := open_int ht hv h
  exact ⟨a, rfl, inI_of_wf hw⟩
theorem arg_str (ht : P.underlying t = some .string) (hv : Value.okWide P W .any b0 t v) (h : DataW.Trod enc P W 0 (fun _ => true) true t v d ps) : ∃ s : ByteArray, v = .string s ∧ s.size ≤ 9223372036854775807 := by
  obtain ⟨s, rfl, _, _, hs⟩ := ChangeMaps.open_string ht hv h
  exact ⟨s, rfl, hs⟩
theorem arg_ints (ht : P.underlying t = some (.slice e)) (he : P.underlying e = some (.int .i64)) (hc : P.cellsOf e = 1) (hv : Value.okWide P W .any b0 t v)
    (h : DataW.Trod enc P W 0 (fun _ => true) true t v d ps) (hlt : ∀ p ∈ ps, p.block < W.heap.size) : ∃ A n c L, v = .slice A n c ∧ Ints W W.heap.size A n L ∧ AllI L ∧ n ≤ 9223372036854775807 := by
  obtain ⟨A, n, c, rfl⟩ := okWide_slice ht hv
  obtain ⟨fuel, hf⟩ := h
  rcases open_ints ht he hc hf with ⟨hcs, _⟩ | ⟨a, len, cap, zs, hcs, _, hl, hm, hz, hx, hcell, hw⟩
  · simp [Value.cells] at hcs
    obtain ⟨rfl, rfl, rfl⟩ := hcs
    exact ⟨none, 0, 0, [], rfl, Ints.nil, fun _ h => (by cases h), by omega⟩
  · simp [Value.cells] at hcs
    obtain ⟨rfl, rfl, rfl⟩ := hcs
    simp only [Prod.mk.injEq] at hx
    obtain ⟨rfl, rfl⟩ := hx
    simp only [if_true] at hz
    have hL : (zs.take n).length = n := by rw [List.length_take]; omega
    refine ⟨some a, n, c, zs.take n, rfl, ⟨by simp [intVals]; omega, fun hn => ⟨a, rfl, hlt (.cell a.block a.off) (MemPlace.mem_row.2 ⟨0, by omega, by simp⟩), fun j u hu => ?_⟩⟩, fun x hx => inI_of_wf (hw x (List.mem_of_mem_take hx)), by unfold maxLen at hm; omega⟩
    have hj : j < n := by
      have := (List.getElem?_eq_some_iff.1 hu).1
      simp [intVals] at this; omega
    rw [intVals_get (by omega)] at hu
    obtain rfl := Option.some.inj hu
    rw [hcell j (by omega)]
    simp [List.getD, hj]
end
theorem ints_sl {W : World} {A : Option Addr} {n : Nat} {L : List Int} (h : Ints W W.heap.size A n L) (hL : AllI L) : SlAt [] W A L := by
  rcases Nat.eq_zero_or_pos n with hn | hn
  · have := h.len
    rw [hn] at this
    exact .inl (List.eq_nil_of_length_eq_zero this)
  · obtain ⟨b, off, rfl, hb, hc⟩ := h.form hn
    refine .inr ⟨b, off, rfl, hb, (fun h => by cases h), fun i hi => ⟨[.int .i64 L[i]], ⟨rfl, hL _ (List.getElem_mem hi)⟩, fun j u hu => ?_⟩⟩
    match j, hu with
    | 0, hu =>
      obtain rfl := Option.some.inj hu
      have := hc i hi
      rw [show i * Mem.sz Int + 0 = i from Nat.mul_one i, this]
      simp [List.getD, List.getElem?_eq_getElem hi]
/-- A slice of ints that was handed in. -/
theorem arg_sl {H : Type} {enc : TypeId × Value → H} {P : Program} {W : World} {t e : TypeId} {v : Value} {d : DataW H} {ps : List MemPlace} {b0 : Nat} (ht : P.underlying t = some (.slice e)) (he : P.underlying e = some (.int .i64)) (hc : P.cellsOf e = 1) (hv : Value.okWide P W .any b0 t v)
    (h : DataW.Trod enc P W 0 (fun _ => true) true t v d ps) (hlt : ∀ p ∈ ps, p.block < W.heap.size) : ∃ (A : Option Addr) (c : Nat) (L : List Int), v = .slice A L.length c ∧ SlAt [] W A L ∧ L.length ≤ c ∧ c ≤ 9223372036854775807 := by
  obtain ⟨A, n, c, L, rfl, hI, hA, hn⟩ := arg_ints ht he hc hv h hlt
  have hb : n ≤ c ∧ c ≤ 9223372036854775807 := by
    obtain ⟨fuel, hf⟩ := h
    rcases open_ints ht he hc hf with ⟨hcs, _⟩ | ⟨a, len, cap, zs, hcs, _, hl, hm, _⟩
    · simp [Value.cells] at hcs
      omega
    · simp [Value.cells] at hcs
      unfold maxLen at hm
      omega
  exact ⟨A, c, L, by rw [hI.len], ints_sl hI hA, by rw [hI.len]; exact hb.1, hb.2⟩
end Go.Proofs.YtmplaikgbeeikaaGreatDoor
