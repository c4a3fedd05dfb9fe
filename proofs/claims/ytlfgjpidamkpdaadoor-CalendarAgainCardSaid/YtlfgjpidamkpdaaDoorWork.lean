/- The statement CalendarWork: the walk. -/
import Derived.Test.YtlfgjpidamkpdaaDoorW24
namespace Go.Proofs.YtlfgjpidamkpdaaDoor
open Go.RowKit
/-- A call that only reads, met behind draws. -/
theorem quiet_add {P : Program} {f : FuncId} {args : Array Value} {w : World} {z x : Nat} {v : Value}
    (h : Calls P f args (w.drewN (z + x)) fun e w' => e = .returned v ∧ w.drewN (z + x) = w') : Calls P f args (w.drewN (z + x)) fun e w'' => e = .returned v ∧ ∃ n, w'' = w.drewN (z + n) :=
  h.mono fun _ _ ⟨he, hm⟩ => ⟨he, x, hm.symm⟩
/-- The cell of a list at an index. -/
theorem Ints.at0' {w : World} {B g n : Nat} {L : List Int} (h : Ints w B (some ⟨g, 0, none⟩) n L) {k : Nat} (hk : k < n) : w.cell? ⟨g, k, none⟩ = some (.int .i64 (L.getD k 0)) := by
  obtain ⟨b, o, e, _, hc⟩ := h.form (by omega)
  injection e with e
  injection e with e1 e2 e3
  subst e1 e2
  have := hc k (by rw [h.len]; exact hk)
  rwa [Nat.zero_add] at this
/-- Three lists in a block. -/
def Lists (w : World) (g : Nat) : Prop := ∀ i, i < 3 → ∃ (A : Option Addr) (n c B : Nat) (L : List Int), w.cell? ⟨g, i, none⟩ = some (.slice A n c) ∧ Ints w B A n L ∧ n ≤ 1000
theorem lists_new (w : World) (A : Option Addr) (c B : Nat) (L : List Int) (n m : Nat) (x y z : Int) (h : Ints w B A n L) (hB : B ≤ w.heap.size) (hn : n ≤ 30) (hm : m ≤ 402) :
    Lists (((w.alloc (.cells (noughts m) 3)).alloc (.cells #[.slice A n c, .slice none 0 0, .slice (some ⟨w.heap.size, 0, none⟩) m m] 23)).alloc (.cells #[.int .i64 x, .int .i64 y, .int .i64 z] 3)) (w.heap.size + 1) := by
  have b1 := (((Blk.new w 3 (noughts m)).alloc (.cells #[.slice A n c, .slice none 0 0, .slice (some ⟨w.heap.size, 0, none⟩) m m] 23)).alloc (.cells #[.int .i64 x, .int .i64 y, .int .i64 z] 3))
  have b2 := (Blk.new (w.alloc (.cells (noughts m) 3)) 23 #[.slice A n c, .slice none 0 0, .slice (some ⟨w.heap.size, 0, none⟩) m m]).alloc (.cells #[.int .i64 x, .int .i64 y, .int .i64 z] 3)
  simp only [World.size_alloc] at b2
  have h3 := ((Reads.alloc (Reads.alloc (Reads.alloc h hB (.cells (noughts m) 3)) (by simp only [World.size_alloc]; omega) (.cells #[.slice A n c, .slice none 0 0, .slice (some ⟨w.heap.size, 0, none⟩) m m] 23)) (by simp only [World.size_alloc]; omega) (.cells #[.int .i64 x, .int .i64 y, .int .i64 z] 3)))
  intro i hi
  have hc := b2.cell i
  match i, hi with
  | 0, _ => exact ⟨_, _, _, _, _, hc, h3, by omega⟩
  | 1, _ => exact ⟨_, _, _, _, _, hc, Ints.nil (B := 0), by omega⟩
  | 2, _ => exact ⟨_, _, _, _, _, hc, ints_of_blk b1 (Nat.lt_succ_self _), by omega⟩
theorem ints_three {w : World} {g B : Nat} {x y z : Int} (h : Blk w g 3 #[.int .i64 x, .int .i64 y, .int .i64 z]) (hB : g < B) : Ints w B (some ⟨g, 0, none⟩) 3 [x, y, z] := by
  refine ⟨rfl, fun _ => ⟨_, rfl, hB, fun j u hu => ?_⟩⟩
  have e : (⟨g, 0, none⟩ : Addr).add j = ⟨g, j, none⟩ := by
    unfold Addr.add
    by_cases h0 : j = 0
    · subst h0; rfl
    · rw [if_neg h0]; simp
  rw [e, h.cell j]
  rw [← hu]
  match j with
  | 0 => rfl
  | 1 => rfl
  | 2 => rfl
  | j + 3 => simp [intVals] at hu
set_option maxRecDepth 10000 in
set_option maxHeartbeats 4000000 in
theorem work_x (n k many raw : Int) (A : Option Addr) (nl c : Nat) (l : List Int) (w : World) (ht : TEnv w) (hl : Ints w w.heap.size A nl l) (hA : AllI l) (hc : nl ≤ 9223372036854775807) (hn : inI n) (hk : inI k) (hmany : inI many) (hraw : inI raw) :
    Calls Tryd.prog 6 #[.int .i64 n, .int .i64 k, .slice A nl c, .int .i64 many, .int .i64 raw] w fun e w' => e = .returned (.bool true) ∧ Below w.heap.size w w' := by
  obtain ⟨n1, n2⟩ := hn; obtain ⟨k1, k2⟩ := hk; obtain ⟨m1, m2⟩ := hmany; obtain ⟨r1, r2⟩ := hraw
  have hb := Below.refl w.heap.size w
  have hsz := ht.sz
  obtain ⟨s1, s2⟩ := som_known n
  go_enter Tryd.func6, Tryd.ntmps6
  go_wp2_with (go_at_call 10; refine (some_any _ _ (by omega) (by omega)).mono ?_; rintro e w1 ⟨rfl, hb1⟩; have hb := hb.trans (hb1.mono hb.size); clear hb1)
  have hsb := hb.size
  go_loopw [12, 13] (fun v i wr => ∃ (j : Nat) (L : List Int), j ≤ nl ∧ j ≤ 30 ∧ L.length = j ∧ i = .int .i64 j ∧ wr.ownsRow w.heap.size 3 1 v L.length (intVals L) ∧ Below w.heap.size w wr) (fun _ i _ => 30 - (intOf i).toNat)
  case atStart => exact ⟨0, [], by omega, by omega, rfl, rfl, ⟨by simp [intVals], .inl ⟨rfl, rfl⟩⟩, hb⟩
  case round =>
    obtain ⟨j, L, hj1, hj2, hLj, rfl, hown, hb⟩ := hrel
    rw [hLj] at hown
    obtain ⟨AL, cl, rfl⟩ := own_form hown
    have HLj := Lib.hid hLj
    clear hLj
    have hsz2 := hb.size
    by_cases hlt : j < nl ∧ j < 30
    · obtain ⟨hlt1, hlt2⟩ := hlt
      have hp : (j : Int) < (nl : Int) := by omega
      have hp2 : (j : Int) < 30 := by omega
      obtain ⟨lb, lo, rfl, lc⟩ := ints_get (Reads.below hl hb) hlt1
      obtain ⟨x1, x2⟩ := hA.get (k := j) (by rw [hl.len]; exact hlt1)
      generalize l.getD j 0 = x at lc x1 x2
      have a1 := around_bd x 60 (by omega)
      have HI := Lib.hid (info_parts int_info)
      have HO := Lib.hid hown
      clear hown
      go_wp2_with (first
        | (go_at_call 17; refine (around_any _ _ _ (by omega) (by omega)).mono ?_; rintro e w2 ⟨rfl, rfl⟩)
        | (at_builtin
           go_loud (
             obtain ⟨i0, hi0, hi1, hi2, hi3⟩ := HI.out
             refine wpList_append_any _ rfl (.tmp 38) (.tmp 47) 23 rfl w.heap.size 3 i0 _ 1 8 Tryd.underlying23 hi0 hi1 hi2 hi3 rfl (by omega) (.slice AL j cl) j (intVals L) rfl
               (HO.out.alloc _) (wr.heap.size + 1) (some ⟨wr.heap.size, 0, none⟩) 1 1 [.int .i64 (som n + around x 60 - 30)] rfl (reads_lit wr 3 _) (by simp [Value.oneCell']) (by unfold maxLen; omega) (by omega) (by simp only [World.size_alloc]; omega) ?_
             intro v3 w3 hown3 hg3 hat3
             have hb3 := (hb.alloc (by omega) (.cells #[.int .i64 (som n + around x 60 - 30)] 3)).grown hg3 (by simp only [World.size_alloc]; omega) (fun g he => (HO.out.lt g he).1)
             clear hi0 hi1 hi2 hi3 hat3 hg3)))
      go_roundw
      case rel => exact ⟨j + 1, L ++ [som n + around x 60 - 30], by omega, by omega, by simp [HLj.out], by go_num, by rw [intVals_append, List.length_append, HLj.out]; exact hown3, hb3⟩
      case measure => simp [intOf]; omega
    · have hL30 : j ≤ 30 := hj2
      have hI := own_ints hown
      have hp : (¬ (j : Int) < (nl : Int)) ∨ ((j : Int) < (nl : Int) ∧ ¬ (j : Int) < 30) := by omega
      have a1 := around_bd many 5 (by omega)
      have a2 := around_bd k 41 (by omega)
      have a3 := around_bd k 2006 (by omega)
      have hmk := fun w : World => mk_ints w (398 + around many 5) (by omega) (by omega)
      rcases hp with hp | ⟨hp, hp2⟩
      all_goals
        go_wp2_with (go_at_call 17; refine (around_any _ _ _ (by omega) (by omega)).mono ?_; rintro e w2 ⟨rfl, rfl⟩)
        have HS := Lib.hid hb; have HI2 := Lib.hid hI
        clear hb hI hown hmk
        obtain ⟨wa, hwa⟩ : ∃ wa : World, wa = wr := ⟨_, rfl⟩
        subst hwa
        go_loopw [16] (fun i w' => ∃ p : Nat, p ≤ 3 ∧ i = .int .i64 p ∧ Lists w' (wa.heap.size + 1) ∧ Ints w' (wa.heap.size + 3) (some ⟨wa.heap.size + 2, 0, none⟩) 3 [around k 41 - 20, k, around k 2006 - 1003] ∧ Ints w' wa.heap.size AL j L ∧ Below w.heap.size w w') (fun i _ => 3 - (intOf i).toNat)
        case atStart =>
          refine ⟨0, by omega, rfl, lists_new _ _ _ _ _ _ _ _ _ _ HI2.out (Nat.le_refl _) hL30 (by omega), ?_, ?_, ?_⟩
          · have b3 := Blk.new ((wa.alloc (.cells (noughts (398 + around many 5).toNat) 3)).alloc (.cells #[.slice AL j cl, .slice none 0 0, .slice (some ⟨wa.heap.size, 0, none⟩) (398 + around many 5).toNat (398 + around many 5).toNat] 23)) 3 #[.int .i64 (around k 41 - 20), .int .i64 k, .int .i64 (around k 2006 - 1003)]
            simp only [World.size_alloc] at b3
            exact ints_three b3 (by omega)
          · exact Reads.alloc (Reads.alloc (Reads.alloc HI2.out (Nat.le_refl _) _) (by simp only [World.size_alloc]; omega) _) (by simp only [World.size_alloc]; omega) _
          · exact ((HS.out.alloc (by omega) _).alloc (by simp only [World.size_alloc]; omega) _).alloc (by simp only [World.size_alloc]; omega) _
        case round =>
          obtain ⟨p, hp3, rfl, hLs, hK, hH, hb⟩ := hrel
          by_cases hlt : p < 3
          · have hpp : (p : Int) < 3 := by omega
            obtain ⟨A1, n1', c1', B1, L1, cz, hI1, hn1'⟩ := hLs p hlt
            have QL := Lib.hid hLs; have QH := Lib.hid hH; have QB := Lib.hid hb; have QI := Lib.hid hI1; have QK := Lib.hid hK
            clear hLs hH hb hI1 hK
            go_wp2_with fail
            obtain ⟨wb, hwb⟩ : ∃ wb : World, wb = wr := ⟨_, rfl⟩
            subst hwb
            go_loopw [17] (fun i w' => ∃ q : Nat, q ≤ 3 ∧ i = .int .i64 q ∧ ∃ z, w' = wb.drewN z) (fun i _ => 3 - (intOf i).toNat)
            case atStart => exact ⟨0, by omega, rfl, 0, rfl⟩
            case round =>
              obtain ⟨q, hq3, rfl, z, rfl⟩ := hrel
              by_cases hlt2 : q < 3
              · have hqq : (q : Int) < 3 := by omega
                have ck := QK.out.at0' (k := q) (by omega)
                obtain ⟨x, hx⟩ : ∃ x, x = [around k 41 - 20, k, around k 2006 - 1003].getD q 0 := ⟨_, rfl⟩
                rw [← hx] at ck
                clear hx
                go_wp2_with fail
                go_quiet (first
                  | (go_at_call 32; exact quiet_add (work_any _ _ _ _ _ (som n) x _ (Reads.drewN QI.out _) (by omega) (by omega) (by omega)))
                  | (go_at_call 33; exact quiet_add (rWork_any _ _ _ _ _ (som n) x _ (Reads.drewN QI.out _) (by omega))))
                go_wp2_with fail
                go_quiet (first
                  | (go_at_call 32; exact quiet_add (work_any _ _ _ _ _ (som n) x _ (Reads.drewN QI.out _) (by omega) (by omega) (by omega)))
                  | (go_at_call 33; exact quiet_add (rWork_any _ _ _ _ _ (som n) x _ (Reads.drewN QI.out _) (by omega))))
                go_wp2_with fail
                go_roundw
                case rel => exact ⟨q + 1, by omega, by go_num, _, rfl⟩
                case measure => simp [intOf]; omega
              · obtain rfl : q = 3 := by omega
                go_wp2_with fail
                go_roundw
                case rel => exact ⟨p + 1, by omega, by go_num, fun i hi => QL.out i hi, QK.out, QH.out, ⟨QB.out.os, QB.out.tape, QB.out.output, QB.out.size, QB.out.block⟩⟩
                case measure => simp [intOf]; omega
          · obtain rfl : p = 3 := by omega
            go_wp2_with (first
              | (go_at_call 32; refine (work_any _ _ _ _ _ _ _ _ hH (by omega) (by omega) (by omega)).mono ?_; rintro e w2 ⟨rfl, rfl⟩)
              | (go_at_call 33; refine (rWork_any _ _ _ _ _ _ _ _ hH (by omega)).mono ?_; rintro e w2 ⟨rfl, rfl⟩)
              | (go_at_call 20; refine (lives_any _ (ht.below hb (by omega))).mono ?_; rintro e w2 ⟨rfl, hb2⟩))
            go_ret
            exact ⟨rfl, hb.trans (hb2.mono hb.size)⟩
end Go.Proofs.YtlfgjpidamkpdaaDoor
