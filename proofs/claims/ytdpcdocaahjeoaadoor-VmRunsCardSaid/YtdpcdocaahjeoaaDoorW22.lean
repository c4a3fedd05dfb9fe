/- Print: the program's. -/
import Derived.Test.YtdpcdocaahjeoaaDoorM7
import Derived.Lib.QuietBelow
namespace Go.Proofs.YtdpcdocaahjeoaaDoor
open Go Go.RowKit
theorem gPow : Tryd.prog.globalNamed "internal/strconv.uint64pow10" = some 0 := by kernel_rfl
/-- What the calls take of the library's variables. -/
structure TEnv (w : World) : Prop where
  tab : Lib.TabIs Tryd.prog w "internal/strconv.uint64pow10" .u64 Lib.pow10Tab
  sz : 0 < w.heap.size
theorem TEnv.below {w w' : World} {B : Nat} (h : TEnv w) (hb : Below B w w') (hB : 0 < B) : TEnv w' := by
  refine ⟨?_, by have := hb.size; have := h.sz; omega⟩
  have h1 := h.tab
  unfold Lib.TabIs at h1 ⊢
  exact var?_below hb gPow hB h1
theorem below_grow (w : World) (k : Nat) (os : Array Obj) : Below w.heap.size w (Go.Sort.grow (w.drewN k) os) :=
  (regrown_of_below (w := w) (Below.refl _ _)).elim fun _ _ => ⟨rfl, rfl, rfl, by simp [Go.Sort.grow, World.drewN], fun i hi => by simp [Go.Sort.grow, World.drewN, Array.getElem?_append, hi]⟩
theorem itoa_any (n : Int) (w : World) (h : inI n) (ht : TEnv w) :
    Calls Tryd.prog 55 #[.int .i64 n] w fun e w' => e = .returned (.string ⟨(Lib.itoa n).toArray⟩) ∧ Below w.heap.size w w' :=
  (Tryd.strconv_Itoa n h.1 h.2 w ht.tab).mono fun e w' ⟨he, k, os, hw⟩ => ⟨he, by rw [hw]; exact below_grow w k os⟩
theorem frozen4 {w : World} {g : Nat} {t : TypeId} {cs : Array Value} (h : Blk w g t cs) : w.frozen? ⟨g, 0, none⟩ = false ∧ w.frozen? ⟨g, 1, none⟩ = false ∧ w.frozen? ⟨g, 2, none⟩ = false ∧ w.frozen? ⟨g, 3, none⟩ = false := ⟨h.frozen 0, h.frozen 1, h.frozen 2, h.frozen 3⟩
theorem strLen (s : ByteArray) : s.data.toList.length = s.size := by simp
theorem dlen (d : ByteArray) : d.data.size = d.size := rfl
theorem wordB_list (op : Nat) (h : op < 9) : (Vm.wordB op).data.toList = Vm.wordsL.getD op [] := by
  match op, h with
  | 0, _ | 1, _ | 2, _ | 3, _ | 4, _ | 5, _ | 6, _ | 7, _ | 8, _ => rfl
theorem wordB_size (op : Nat) (h : op < 9) : (Vm.wordB op).size ≤ 4 := by
  match op, h with
  | 0, _ | 1, _ | 2, _ | 3, _ | 4, _ | 5, _ | 6, _ | 7, _ | 8, _ => decide
set_option maxRecDepth 100000 in
set_option maxHeartbeats 4000000 in
theorem print_any (p : List Vm.Ins) (A : Option Addr) (c : Nat) (w : World) (hp : SlAt [] w A p) (hm : p.length ≤ 1000000) (henv : TEnv w) :
    Calls Tryd.prog 24 #[.slice A p.length c] w fun e w' => e = .returned (.string ⟨(Vm.print p).toArray⟩) ∧ Below w.heap.size w w' := by
  have CV := Lib.hid (valid_any p A c w hp (by omega))
  obtain ⟨n, hn⟩ : ∃ n, p.length = n := ⟨_, rfl⟩
  obtain ⟨vv, hvv⟩ : ∃ z, Vm.vld p = z := ⟨_, rfl⟩
  rw [hvv] at CV
  have hpr : Vm.print p = if vv = 0 then Vm.source p else [] := by unfold Vm.print; rw [hvv]
  have HENV := Lib.hid henv
  by_cases h0 : vv = 0
  · subst h0
    have hall : ∀ i ∈ p, Vm.insOk (p.length : Int) i = true := Vm.all_ok hvv
    have h128 : p.length ≤ 128 := Vm.le128 hvv
    rw [if_pos rfl] at hpr
    have HPR := Lib.hid hpr
    have T0 := Lib.hid ((held0 w [] (fun _ h => by cases h)).add (keeps_sl A p) hp)
    have HN := Lib.hid hn; have HO := Lib.hid hall
    have CS := Lib.hid sorts_any
    rw [hn] at hm h128 CV ⊢
    clear hp hn hall hvv hpr henv
    go_enter Tryd.func24, Tryd.ntmps24
    go_wp2_with (go_at_call 18; ((with_reducible refine (CV.out).mono ?_)); rintro e w1 ⟨rfl, hb⟩; replace T0 := Lib.hid (T0.out.below hb); clear hb)
    have T := Lib.hid (Bld.new T0.out)
    obtain ⟨Nb, hNb⟩ : ∃ N, w1.heap.size = N := ⟨_, rfl⟩
    rw [hNb] at T ⊢
    clear hNb T0
    go_loopg [14] n (fun r i wr => ∃ (k : Nat) (M : List Nat), k + r = n ∧ i = .int .i64 k ∧ (Vm.source (p.take k)).length ≤ 41 * k ∧ Bld w [] M [] [fun M W => SlAt M W A p] Nb (Vm.source (p.take k)) wr)
    case atStart => exact ⟨0, _, by omega, rfl, by simp [Vm.source], T.out⟩
    case round =>
      obtain ⟨k, M, hk, rfl, hts, hb⟩ := hrel
      obtain ⟨wo, rfl⟩ : ∃ wo : World, wo = wr := ⟨_, rfl⟩
      obtain ⟨gq, rfl⟩ : ∃ g : Nat, g = gk := ⟨_, rfl⟩
      replace T := Lib.hid hb
      clear hb
      by_cases hlt : k < n
      · have hkp : k < p.length := by rw [HN.out]; exact hlt
        have k0 : (0 : Int) ≤ (k : Int) := Int.natCast_nonneg _
        have k1 : (k : Int) < (n : Int) := by omega
        have HSO := Lib.hid (source_snoc p k hkp)
        obtain ⟨b, o, rfl, _, c0, c1, c2, c3, i0, i1, i2, i3⟩ := Vm.ins_at (T.out.fact (.head _)) k hkp
        have hin := HO.out _ (List.getElem_mem hkp)
        rw [HN.out] at hin
        obtain ⟨i, hi⟩ : ∃ i, p[k] = i := ⟨_, rfl⟩
        rw [hi] at c0 c1 c2 c3 i0 i1 i2 i3 hin HSO
        clear hi
        obtain ⟨op, x, y, z⟩ := i
        dsimp only at c0 c1 c2 c3 i0 i1 i2 i3
        obtain ⟨op, rfl, hop, hx0, hx1, hx2⟩ := Vm.ok_open hin (by omega)
        have o3 : (0 : Int) ≤ (op : Int) := Int.natCast_nonneg _
        have o4 : (op : Int) < 9 := by omega
        rw [insT_pieces] at HSO
        have HX := Lib.hid (index_sorts op hop)
        obtain ⟨ws, hws⟩ : ∃ s, Vm.wordB op = s := ⟨_, rfl⟩
        have hwl : ws.size ≤ 4 := by rw [← hws]; exact wordB_size op hop
        have HWL := Lib.hid (show ws.data.toList = Vm.wordsL.getD op [] by rw [← hws]; exact wordB_list op hop)
        rw [hws] at HX
        obtain ⟨acc, hacc⟩ : ∃ l, Vm.source (p.take k) = l := ⟨_, rfl⟩
        rw [hacc] at hts T HSO
        have hal : acc.length ≤ 5248 := by omega
        have HP0 := Lib.hid (show piece (Vm.sortOf (op : Int) 0) x = _ from rfl); have HP1 := Lib.hid (show piece (Vm.sortOf (op : Int) 1) y = _ from rfl); have HP2 := Lib.hid (show piece (Vm.sortOf (op : Int) 2) z = _ from rfl)
        obtain ⟨P0, hP0⟩ : ∃ P, piece (Vm.sortOf (op : Int) 0) x = P := ⟨_, rfl⟩
        obtain ⟨P1, hP1⟩ : ∃ P, piece (Vm.sortOf (op : Int) 1) y = P := ⟨_, rfl⟩
        obtain ⟨P2, hP2⟩ : ∃ P, piece (Vm.sortOf (op : Int) 2) z = P := ⟨_, rfl⟩
        rw [hP0, hP1, hP2] at HSO
        replace HP0 := Lib.hid hP0; replace HP1 := Lib.hid hP1; replace HP2 := Lib.hid hP2
        obtain ⟨Ni, hNi⟩ : ∃ N, wo.heap.size = N := ⟨_, rfl⟩
        replace T := Lib.hid (T.out.newBox #[.int .i64 (op : Int), .int .i64 x, .int .i64 y, .int .i64 z] 104 hNi)
        clear hws hP0 hP1 hP2 hacc
        go_upto_region 7 with fail
        apply wp_region_typed (C := fun w' => Below (wo.alloc (.cells #[.int .i64 (op : Int), .int .i64 x, .int .i64 y, .int .i64 z] 104)).heap.size (wo.alloc (.cells #[.int .i64 (op : Int), .int .i64 x, .int .i64 y, .int .i64 z] 104)) w') (n := 44) (m := 5) (l1 := [_, _, _, _, _]) (l2 := [_])
        · rfl
        · rfl
        · kernel_rfl
        · rfl
        · kernel_rfl
        · exact ⟨rfl, rfl, rfl, Nat.le_refl _, fun _ _ => rfl⟩
        · exact fun u u' h hb => (by first | exact h.below hb | exact h.trans (hb.mono h.size))
        (apply wpT_exact; · (intro w' hC hf; unfold Gives; clear hf hC; go_wp2_with (go_at_call 45; ((with_reducible refine (CS.out _).mono ?_)); rintro e w2 ⟨rfl, hb2⟩); apply postT_val rfl (by assumption); simp only [valAt, Array.getD_eq_getD_getElem?, List.getElem?_toArray, List.getElem?_cons_succ, List.getElem?_cons_zero, Option.getD_some]; exact rfl)); (try simp only [Act.put, List.setIfInBounds_toArray, List.set_cons_zero, List.set_cons_succ])
        (apply wpT_exact; · (intro w' hC hf; unfold Gives; clear hf hC; go_wp2_with (fail); apply postT_val rfl (Below.refl _ _); simp only [valAt, Array.getD_eq_getD_getElem?, List.getElem?_toArray, List.getElem?_cons_succ, List.getElem?_cons_zero, Option.getD_some]; exact rfl)); (try simp only [Act.put, List.setIfInBounds_toArray, List.set_cons_zero, List.set_cons_succ])
        (apply wpT_exact; · (intro w' hC hf; unfold Gives; obtain ⟨d0, d1, d2, d3⟩ := cells4 (((T.out.below hC).box (.head _))); clear hf hC; go_wp2_with (fail); apply postT_val rfl (Below.refl _ _); simp only [valAt, Array.getD_eq_getD_getElem?, List.getElem?_toArray, List.getElem?_cons_succ, List.getElem?_cons_zero, Option.getD_some]; exact rfl)); (try simp only [Act.put, List.setIfInBounds_toArray, List.set_cons_zero, List.set_cons_succ])
        (apply wpT_exact; · (intro w' hC hf; unfold Gives; have ixs := HX.out; clear hf hC; go_wp2_with (fail); apply postT_val rfl (Below.refl _ _); simp only [valAt, Array.getD_eq_getD_getElem?, List.getElem?_toArray, List.getElem?_cons_succ, List.getElem?_cons_zero, Option.getD_some]; exact rfl)); (try simp only [Act.put, List.setIfInBounds_toArray, List.set_cons_zero, List.set_cons_succ])
        apply wpT_typed (atBlk_kept (wo.alloc (.cells #[.int .i64 (op : Int), .int .i64 x, .int .i64 y, .int .i64 z] 104)).heap.size 112 #[.string ⟨#[]⟩, .int .i64 0, .int .i64 0, .int .i64 0])
        · intro w' hC hf; unfold Gives
          have hsz := hC.size
          clear hf hC; go_wp2_with fail; apply postT_mk rfl (by go_grown); simp only [valAt, Array.getD_eq_getD_getElem?, List.getElem?_toArray, List.getElem?_cons_succ, List.getElem?_cons_zero, Option.getD_some]; exact ⟨_, rfl, hsz, Blk.new _ _ _⟩
        intro vs; (try simp only [Act.put, List.setIfInBounds_toArray, List.set_cons_zero, List.set_cons_succ])
        apply wpT_done
        intro w4 hC hall
        obtain ⟨Ns, rfl, hsz, hB⟩ := hall.1
        replace T := Lib.hid (T.out.adopt hC hsz hB)
        clear hC hall hsz hB
        obtain ⟨s0, s1, s2, s3⟩ := cells4 (T.out.box (.head _))
        obtain ⟨f0, f1, f2, f3⟩ := frozen4 (T.out.box (.head _))
        replace T := Lib.hid (show Bld w [] (Ns :: Ni :: M) [(Ns, 112, #[.string ws, .int .i64 (Vm.sortOf (op : Int) 0 : Nat), .int .i64 (Vm.sortOf (op : Int) 1 : Nat), .int .i64 (Vm.sortOf (op : Int) 2 : Nat)]), (Ni, 104, #[.int .i64 (op : Int), .int .i64 x, .int .i64 y, .int .i64 z])] _ Nb acc _ from ((((T.out.set_ 0 (.string ws)).set_ 1 (.int .i64 (Vm.sortOf (op : Int) 0 : Nat))).set_ 2 (.int .i64 (Vm.sortOf (op : Int) 1 : Nat))).set_ 3 (.int .i64 (Vm.sortOf (op : Int) 2 : Nat))))
        have CN := Lib.hid (numbers_any (op : Int) x y z)
        go_wp2_with (first | (go_at_call 54; ((with_reducible refine (writeString_any ws T.out (by omega)).mono ?_)); rintro e w8 ⟨rfl, M8, hT8, _⟩; replace T := Lib.hid hT8; clear hT8 s0 s1 s2 s3 f0 f1 f2 f3 c0 c1 c2 c3; obtain ⟨d0, d1, d2, d3⟩ := cells4 (T.out.box (.tail _ (.head _)))) | (go_at_call 43; ((with_reducible refine (CN.out _).mono ?_)); rintro e w9 ⟨rfl, hb9⟩; replace T := Lib.hid (T.out.below hb9); clear hb9 d0 d1 d2 d3))
        go_loopg [27] 3 (fun r j wr2 => ∃ (jj : Nat) (l' : List UInt8) (M' : List Nat), jj + r = 3 ∧ j = .int .i64 jj ∧ l' = (acc ++ ws.data.toList) ++ ([P0, P1, P2].take jj).flatten ∧ l'.length ≤ 41 * k + 4 + 12 * jj ∧ Bld w [] M' [(Ns, 112, #[.string ws, .int .i64 (Vm.sortOf (op : Int) 0 : Nat), .int .i64 (Vm.sortOf (op : Int) 1 : Nat), .int .i64 (Vm.sortOf (op : Int) 2 : Nat)]), (Ni, 104, #[.int .i64 (op : Int), .int .i64 x, .int .i64 y, .int .i64 z])] [fun M W => SlAt M W (some ⟨b, o, none⟩) p] Nb l' wr2)
        case atStart => exact ⟨0, acc ++ ws.data.toList, _, by omega, rfl, by simp, by have h := strLen ws; rw [List.length_append]; omega, T.out⟩
        case round =>
          obtain ⟨jj, l', M', hj, rfl, hl', hts2, hb⟩ := hrel
          have HL' := Lib.hid hl'
          replace T := Lib.hid hb
          have hts3 : l'.length ≤ 6000 := by omega
          clear hl' hb
          obtain ⟨wi, rfl⟩ : ∃ wo : World, wo = wr := ⟨_, rfl⟩
          rcases (show jj = 0 ∨ jj = 1 ∨ jj = 2 ∨ jj = 3 by omega) with rfl | rfl | rfl | rfl
          · rw [show ((0 : Nat) : Int) = 0 from rfl]
            have HJ := Lib.hid (show (([P0, P1, P2].take 0).flatten ++ P0 : List UInt8) = ([P0, P1, P2].take 1).flatten by simp)
            have ix : ∀ w, (Instr.index 109 (.agg #[.int .i64 x, .int .i64 y, .int .i64 z]) (.int .i64 0)).run Tryd.prog w = .ok (.int .i64 x) w := fun w => index_three x y z 0 (by decide) w
            obtain ⟨s0, s1, s2, s3⟩ := cells4 (T.out.box (.head _))
            by_cases hz : Vm.sortOf (op : Int) 0 = 0
            · have HPJ := Lib.hid (show P0 = [] by rw [← HP0.out]; unfold piece; rw [if_pos hz])
              rw [hz] at s1
              clear hz hx0 hx1 hx2
              go_wp2_with fail
              go_roundg (gk - 1)
              case measure => omega
              case rel => exact ⟨1, _, _, by omega, by first | rfl | go_num, HL'.out.trans (by rw [← HJ.out, HPJ.out]; simp), by omega, T.out⟩
            · have HPJ := Lib.hid (show P0 = 32 :: Lib.itoa x by rw [← HP0.out]; unfold piece; rw [if_neg hz])
              have t1 : (((Vm.sortOf (op : Int) 0 : Nat) : Int) != 0) = true := by rw [bne_iff_ne]; omega
              have t2 : (Vm.sortOf (op : Int) 0 == 0) = false := beq_eq_false_iff_ne.2 hz
              have t3 : (Vm.sortOf (op : Int) 0 != 0) = true := by rw [bne_iff_ne]; exact hz
              have CD := Lib.hid (fun W (hb : Below w.heap.size w W) => itoa_any x W i1 (HENV.out.below hb HENV.out.sz))
              have hil := Dc.itoa_len x (by have := hx0 hz; omega)
              obtain ⟨d, hd⟩ : ∃ d : ByteArray, (⟨(Lib.itoa x).toArray⟩ : ByteArray) = d := ⟨_, rfl⟩
              rw [hd] at CD
              have hds : d.size ≤ 11 := by rw [← hd]; exact hil
              have HD := Lib.hid (show d.data.toList = Lib.itoa x by rw [← hd])
              generalize Vm.sortOf (op : Int) 0 = sj at *
              clear hz hx0 hx1 hx2 hil hd
              go_wp2_with (first | (go_at_call 55; ((with_reducible refine (CD.out _ T.out.bl).mono ?_)); rintro e w7 ⟨rfl, hb7⟩; replace T := Lib.hid (T.out.below hb7); clear hb7) | (go_at_call 54; ((with_reducible refine (writeString_any _ T.out (by simp only [ByteArray.size_append, sz1]; omega)).mono ?_)); rintro e w8 ⟨rfl, M8, hT8, _⟩; replace T := Lib.hid hT8; clear hT8))
              go_roundg (gk - 1)
              case measure => omega
              case rel => exact ⟨1, _, _, by omega, by first | rfl | go_num, by rw [← HJ.out, ← List.append_assoc, ← HL'.out, HPJ.out, ← HD.out]; simp, by (simp only [List.length_append, Array.length_toList, ByteArray.data_append, Array.toList_append, List.length_cons, List.length_nil]; rw [dlen]; omega), T.out⟩
          · rw [show ((1 : Nat) : Int) = 1 from rfl]
            have HJ := Lib.hid (show (([P0, P1, P2].take 1).flatten ++ P1 : List UInt8) = ([P0, P1, P2].take 2).flatten by simp)
            have ix : ∀ w, (Instr.index 109 (.agg #[.int .i64 x, .int .i64 y, .int .i64 z]) (.int .i64 1)).run Tryd.prog w = .ok (.int .i64 y) w := fun w => index_three x y z 1 (by decide) w
            obtain ⟨s0, s1, s2, s3⟩ := cells4 (T.out.box (.head _))
            by_cases hz : Vm.sortOf (op : Int) 1 = 0
            · have HPJ := Lib.hid (show P1 = [] by rw [← HP1.out]; unfold piece; rw [if_pos hz])
              rw [hz] at s2
              clear hz hx0 hx1 hx2
              go_wp2_with fail
              go_roundg (gk - 1)
              case measure => omega
              case rel => exact ⟨2, _, _, by omega, by first | rfl | go_num, HL'.out.trans (by rw [← HJ.out, HPJ.out]; simp), by omega, T.out⟩
            · have HPJ := Lib.hid (show P1 = 32 :: Lib.itoa y by rw [← HP1.out]; unfold piece; rw [if_neg hz])
              have t1 : (((Vm.sortOf (op : Int) 1 : Nat) : Int) != 0) = true := by rw [bne_iff_ne]; omega
              have t2 : (Vm.sortOf (op : Int) 1 == 0) = false := beq_eq_false_iff_ne.2 hz
              have t3 : (Vm.sortOf (op : Int) 1 != 0) = true := by rw [bne_iff_ne]; exact hz
              have CD := Lib.hid (fun W (hb : Below w.heap.size w W) => itoa_any y W i2 (HENV.out.below hb HENV.out.sz))
              have hil := Dc.itoa_len y (by have := hx1 hz; omega)
              obtain ⟨d, hd⟩ : ∃ d : ByteArray, (⟨(Lib.itoa y).toArray⟩ : ByteArray) = d := ⟨_, rfl⟩
              rw [hd] at CD
              have hds : d.size ≤ 11 := by rw [← hd]; exact hil
              have HD := Lib.hid (show d.data.toList = Lib.itoa y by rw [← hd])
              generalize Vm.sortOf (op : Int) 1 = sj at *
              clear hz hx0 hx1 hx2 hil hd
              go_wp2_with (first | (go_at_call 55; ((with_reducible refine (CD.out _ T.out.bl).mono ?_)); rintro e w7 ⟨rfl, hb7⟩; replace T := Lib.hid (T.out.below hb7); clear hb7) | (go_at_call 54; ((with_reducible refine (writeString_any _ T.out (by simp only [ByteArray.size_append, sz1]; omega)).mono ?_)); rintro e w8 ⟨rfl, M8, hT8, _⟩; replace T := Lib.hid hT8; clear hT8))
              go_roundg (gk - 1)
              case measure => omega
              case rel => exact ⟨2, _, _, by omega, by first | rfl | go_num, by rw [← HJ.out, ← List.append_assoc, ← HL'.out, HPJ.out, ← HD.out]; simp, by (simp only [List.length_append, Array.length_toList, ByteArray.data_append, Array.toList_append, List.length_cons, List.length_nil]; rw [dlen]; omega), T.out⟩
          · rw [show ((2 : Nat) : Int) = 2 from rfl]
            have HJ := Lib.hid (show (([P0, P1, P2].take 2).flatten ++ P2 : List UInt8) = ([P0, P1, P2].take 3).flatten by simp)
            have ix : ∀ w, (Instr.index 109 (.agg #[.int .i64 x, .int .i64 y, .int .i64 z]) (.int .i64 2)).run Tryd.prog w = .ok (.int .i64 z) w := fun w => index_three x y z 2 (by decide) w
            obtain ⟨s0, s1, s2, s3⟩ := cells4 (T.out.box (.head _))
            by_cases hz : Vm.sortOf (op : Int) 2 = 0
            · have HPJ := Lib.hid (show P2 = [] by rw [← HP2.out]; unfold piece; rw [if_pos hz])
              rw [hz] at s3
              clear hz hx0 hx1 hx2
              go_wp2_with fail
              go_roundg (gk - 1)
              case measure => omega
              case rel => exact ⟨3, _, _, by omega, by first | rfl | go_num, HL'.out.trans (by rw [← HJ.out, HPJ.out]; simp), by omega, T.out⟩
            · have HPJ := Lib.hid (show P2 = 32 :: Lib.itoa z by rw [← HP2.out]; unfold piece; rw [if_neg hz])
              have t1 : (((Vm.sortOf (op : Int) 2 : Nat) : Int) != 0) = true := by rw [bne_iff_ne]; omega
              have t2 : (Vm.sortOf (op : Int) 2 == 0) = false := beq_eq_false_iff_ne.2 hz
              have t3 : (Vm.sortOf (op : Int) 2 != 0) = true := by rw [bne_iff_ne]; exact hz
              have CD := Lib.hid (fun W (hb : Below w.heap.size w W) => itoa_any z W i3 (HENV.out.below hb HENV.out.sz))
              have hil := Dc.itoa_len z (by have := hx2 hz; omega)
              obtain ⟨d, hd⟩ : ∃ d : ByteArray, (⟨(Lib.itoa z).toArray⟩ : ByteArray) = d := ⟨_, rfl⟩
              rw [hd] at CD
              have hds : d.size ≤ 11 := by rw [← hd]; exact hil
              have HD := Lib.hid (show d.data.toList = Lib.itoa z by rw [← hd])
              generalize Vm.sortOf (op : Int) 2 = sj at *
              clear hz hx0 hx1 hx2 hil hd
              go_wp2_with (first | (go_at_call 55; ((with_reducible refine (CD.out _ T.out.bl).mono ?_)); rintro e w7 ⟨rfl, hb7⟩; replace T := Lib.hid (T.out.below hb7); clear hb7) | (go_at_call 54; ((with_reducible refine (writeString_any _ T.out (by simp only [ByteArray.size_append, sz1]; omega)).mono ?_)); rintro e w8 ⟨rfl, M8, hT8, _⟩; replace T := Lib.hid hT8; clear hT8))
              go_roundg (gk - 1)
              case measure => omega
              case rel => exact ⟨3, _, _, by omega, by first | rfl | go_num, by rw [← HJ.out, ← List.append_assoc, ← HL'.out, HPJ.out, ← HD.out]; simp, by (simp only [List.length_append, Array.length_toList, ByteArray.data_append, Array.toList_append, List.length_cons, List.length_nil]; rw [dlen]; omega), T.out⟩
          · rw [show ((3 : Nat) : Int) = 3 from rfl]
            have CB := Lib.hid (show Calls Tryd.prog 56 #[.pointer (some ⟨Nb, 0, none⟩), .int .u8 10] _ _ from writeByte_any 10 T.out (by omega))
            go_wp2_with (go_at_call 56; ((with_reducible refine (CB.out).mono ?_)); rintro e w8 ⟨rfl, M8, hT8, _⟩; replace T := Lib.hid hT8; clear hT8)
            have hfin : l' ++ [10] = Vm.source (p.take (k + 1)) := by rw [← HSO.out, HL'.out, HWL.out]; simp
            rw [hfin] at T
            go_roundg (gq - 1)
            case measure => omega
            case rel =>
              refine ⟨k + 1, _, by omega, by go_num, ?_, T.out.rest.rest⟩
              rw [← hfin, List.length_append]
              simp
              omega
      · have hkn : k = n := by omega
        subst hkn
        rw [List.take_of_length_le (Nat.le_of_eq HN.out)] at T
        go_wp2_with (go_at_call 57; ((with_reducible refine (bldString_any T.out).mono ?_)); rintro e w8 ⟨rfl, hb8⟩; have HB := Lib.hid (T.out.bl.trans hb8); clear hb8)
        go_ret
        exact ⟨by rw [HPR.out]; rfl, HB.out⟩
  · rw [if_neg h0] at hpr
    have HPR := Lib.hid hpr
    have q1 : (vv == 0) = false := by simpa using h0
    have q2 : (vv != 0) = true := by simpa using h0
    rw [hn] at CV ⊢
    clear hp hn hvv hpr h0
    go_enter Tryd.func24, Tryd.ntmps24
    go_wp2_with (go_at_call 18; ((with_reducible refine (CV.out).mono ?_)); rintro e w1 ⟨rfl, hb⟩; have HB := Lib.hid hb; clear hb)
    go_ret
    exact ⟨by rw [HPR.out]; rfl, HB.out⟩
end Go.Proofs.YtdpcdocaahjeoaaDoor
