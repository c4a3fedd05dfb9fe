/- Parse: the program's. -/
import Derived.Test.YtdpcdocaahjeoaaDoorM8
namespace Go.Proofs.YtdpcdocaahjeoaaDoor
open Go Go.RowKit
def ParseP (l : List UInt8) (w : World) (e : Ending) (w' : World) : Prop := ∃ v, e = .returned (.tuple #[v, .int .i64 (Vm.parse l).2.1, .int .i64 (Vm.parse l).2.2]) ∧ Rep [] w' (Vm.parse l).1 v ∧ Below w.heap.size w w'
theorem parseErr {l : List UInt8} {w w' : World} {a e : Int} (h : Vm.parse l = ([], a, e)) (hb : Below w.heap.size w w') : ParseP l w (.returned (.tuple #[.slice none 0 0, .int .i64 a, .int .i64 e])) w' :=
  ⟨_, by rw [h], by rw [h]; exact ⟨none, 0, rfl, Nat.le_refl _, by omega, .nil⟩, hb⟩
theorem cell1 {w : World} {g : Nat} {t : TypeId} {a : Value} (h : Blk w g t #[a]) : w.cell? ⟨g, 0, none⟩ = some a ∧ w.frozen? ⟨g, 0, none⟩ = false := ⟨h.cell 0, h.frozen 0⟩
theorem cell3 {w : World} {g : Nat} {t : TypeId} {a b c : Value} (h : Blk w g t #[a, b, c]) : w.cell? ⟨g, 0, none⟩ = some a ∧ w.cell? ⟨g, 1, none⟩ = some b ∧ w.cell? ⟨g, 2, none⟩ = some c ∧ w.frozen? ⟨g, 0, none⟩ = false ∧ w.frozen? ⟨g, 1, none⟩ = false ∧ w.frozen? ⟨g, 2, none⟩ = false := ⟨h.cell 0, h.cell 1, h.cell 2, h.frozen 0, h.frozen 1, h.frozen 2⟩
theorem sortq_flat {G : List Nat} {w : World} : Flat G w SORTQ SORTL := by
  have hm : ∀ (s : ByteArray) (a b c : Int) (l : List Srt) (xs : List Value), s.size ≤ 100 → inI a → inI b → inI c → Flat G w l xs → Flat G w ((s, a, b, c) :: l) ([.string s, .int .i64 a, .int .i64 b, .int .i64 c] ++ xs) := fun s a b c l xs hs ha hb hc h =>
    ⟨[.string s, .int .i64 a, .int .i64 b, .int .i64 c], xs, rfl, ⟨[_], _, rfl, ⟨rfl, (show s.size ≤ 9223372036854775807 by omega)⟩, [_], _, rfl, ⟨rfl, ha⟩, [_], _, rfl, ⟨rfl, hb⟩, ⟨rfl, hc⟩⟩, h⟩
  have hin : ∀ k : Nat, k < 7 → inI (k : Int) := fun k hk => by unfold inI; omega
  show Flat G w SORTQ _
  unfold SORTQ
  simp only [List.range, List.range.loop, List.map_cons, List.map_nil]
  iterate 9 refine hm _ _ _ _ _ _ (by decide) (hin _ (by decide)) (hin _ (by decide)) (hin _ (by decide)) ?_
  rfl
theorem sortq_get (o : Nat) (h : o < 9) (h' : o < SORTQ.length) : SORTQ[o] = (Vm.wordB o, ((Vm.sortOf o 0 : Nat) : Int), ((Vm.sortOf o 1 : Nat) : Int), ((Vm.sortOf o 2 : Nat) : Int)) := by
  match o, h with
  | 0, _ | 1, _ | 2, _ | 3, _ | 4, _ | 5, _ | 6, _ | 7, _ | 8, _ => rfl
theorem tab_cells {M : List Nat} {W : World} {Na : Nat} (h : SlAt M W (some ⟨Na, 0, none⟩) SORTQ) (o : Nat) (ho : o < 9) : W.cell? ⟨Na, o * 4 + 1, none⟩ = some (.int .i64 (Vm.sortOf o 0 : Nat)) ∧ W.cell? ⟨Na, o * 4 + 2, none⟩ = some (.int .i64 (Vm.sortOf o 1 : Nat)) ∧ W.cell? ⟨Na, o * 4 + 3, none⟩ = some (.int .i64 (Vm.sortOf o 2 : Nat)) := by
  have ho' : o < SORTQ.length := ho
  obtain ⟨b, o', hA, _, c0, c1, c2, c3⟩ := srt_at h o ho'
  obtain ⟨rfl, rfl⟩ := addr_inj hA
  rw [sortq_get o ho ho'] at c1 c2 c3
  rw [Nat.zero_add] at c1 c2 c3
  exact ⟨c1, c2, c3⟩
theorem row_sl0 {α : Type} [Mem α] {A : Option Addr} {l : List α} {w W : World} {M : List Nat} {bx : List Box} {L : List (List Nat → World → Prop)} {e : TypeId} {size n : Nat} {v : Value} {xs : List Value} (h : HRow w [] M bx ((fun M W => SlAt M W A l) :: L) e size v n xs W) : SlAt [] W A l := (h.h.fact (.head _)).sub (fun _ h => by cases h)
theorem row_c0 {w W : World} {M : List Nat} {bx : List Box} {L : List (List Nat → World → Prop)} {e : TypeId} {size n : Nat} {v : Value} {xs : List Value} {N : Nat} {t : TypeId} {a : Value} (h : HRow w [] M ((N, t, #[a]) :: bx) L e size v n xs W) : W.cell? ⟨N, 0, none⟩ = some a := (h.h.box (.head _)).cell 0
theorem keep_tab {w W W3 : World} {M : List Nat} {bx : List Box} {v : Value} {k : Nat} {xs : List Value} (h : HRow w [] M bx [] 104 4 v k xs W) (hr : W3.rangeAt W.heap.size 0 SORTL) (hb : Below W.heap.size W W3) : HRow w [] M bx [fun M W' => SlAt M W' (some ⟨W.heap.size, 0, none⟩) SORTQ] 104 4 v k xs W3 := by
  refine (h.below hb).add (keeps_sl _ _) (SlAt.of_cells (xs := SORTL) sortq_flat ?_ (fun hm => Nat.lt_irrefl _ (h.h.mb _ hm)) fun j u hu => ?_)
  · exact World.block_lt_of_cell? _ _ (hr 0 _ rfl)
  · have := hr j u hu; rw [Nat.zero_add] at this; exact this
set_option maxRecDepth 100000 in
set_option maxHeartbeats 8000000 in
theorem parse_any (s : ByteArray) (w : World) (hs : s.size ≤ 1000000) : Calls Tryd.prog 28 #[.string s] w (ParseP s.data.toList w) := by
  obtain ⟨n, hn⟩ : ∃ n, s.size = n := ⟨_, rfl⟩
  have hsn : s.size = n := hn
  obtain ⟨i0, hi, hz0, hz1, hz2⟩ := info_parts infoIns
  have HII := Lib.hid (show _ ∧ _ ∧ _ ∧ _ from ⟨hi, hz0, hz1, hz2⟩)
  clear hi hz0 hz1 hz2
  by_cases hlong : 8192 < n
  · have HG := Lib.hid (show Vm.parse s.data.toList = ([], 8192, 4) by unfold Vm.parse; rw [Vm.strLn, if_pos (by omega)])
    have t1 : decide ((8192 : Int) < (n : Int)) = true := decide_eq_true (by omega)
    clear hn
    go_enter Tryd.func28, Tryd.ntmps28
    go_wp2_with fail
    go_ret3
    exact parseErr HG.out (Below.refl _ _)
  · have t1 : decide ((8192 : Int) < (n : Int)) = false := decide_eq_false (by omega)
    have hpar : Vm.parse s.data.toList = Vm.loopP s.data.toList (s.data.toList.length + 1) (Vm.tokAt s.data.toList 0).1 (Vm.tokAt s.data.toList 0).2 [] := by unfold Vm.parse; rw [Vm.strLn, if_neg (by omega)]
    rw [Vm.strLn, hn] at hpar
    have htl := Vm.tokAt_le (s := s.data.toList) (a := 0) (by omega)
    have CT := Lib.hid (fun W => show Calls Tryd.prog 59 #[.string s, .int .i64 0] W _ from token_any s 0 W (by omega) (by omega))
    obtain ⟨at0, ha0⟩ : ∃ a, (Vm.tokAt s.data.toList 0).1 = a := ⟨_, rfl⟩
    obtain ⟨wd0, hw0⟩ : ∃ b : ByteArray, (⟨(Vm.tokAt s.data.toList 0).2.toArray⟩ : ByteArray) = b := ⟨_, rfl⟩
    have hwl0 : wd0.data.toList = (Vm.tokAt s.data.toList 0).2 := by rw [← hw0]
    rw [ha0, ← hwl0, Vm.strLn, Vm.strLn] at htl
    unfold TokP at CT
    simp only [ha0, hw0] at CT
    rw [ha0, ← hwl0] at hpar
    have HWD0 := Lib.hid htl.2.2.1
    have HPAR := Lib.hid hpar
    have h21 := htl.2.1
    have T0 := Lib.hid (held0 w [] (fun _ h => by cases h))
    clear hn hpar ha0 hw0 hwl0 htl
    go_enter Tryd.func28, Tryd.ntmps28
    go_wp2_with (go_at_call 59; ((with_reducible refine (CT.out _).mono ?_)); rintro e w1 ⟨rfl, hb⟩; replace T0 := Lib.hid (T0.out.below hb); clear hb)
    obtain ⟨Nw, hNw⟩ : ∃ N, w1.heap.size = N := ⟨_, rfl⟩
    have T := Lib.hid (HRow.start (e := 104) (size := 4) (T0.out.new #[.string wd0] 9 hNw))
    rw [hNw]
    clear hNw T0 CT
    go_loopg [5, 6] (n + 1) (fun r v a wr => ∃ (at_ : Nat) (wd : ByteArray) (acc : List Vm.Ins) (M : List Nat), a = .int .i64 at_ ∧ at_ ≤ n ∧ wd.data.toList = Vm.wordAt s.data.toList at_ ∧ n < at_ + r ∧ acc.length ≤ at_ ∧ AllIns acc ∧ Vm.loopP s.data.toList r at_ wd.data.toList acc = Vm.parse s.data.toList ∧ HRow w [] M [(Nw, 9, #[.string wd])] [] 104 4 v acc.length (insVals acc) wr)
    case atStart => exact ⟨at0, wd0, [], _, rfl, by omega, HWD0.out, by omega, by simp, (fun _ h => by cases h), HPAR.out.symm, T.out⟩
    case round =>
      obtain ⟨at_, wd, acc, M, rfl, hat, hwd, hfu, hacl, hai, hg, hH⟩ := hrel
      obtain ⟨wo, rfl⟩ : ∃ wo : World, wo = wr := ⟨_, rfl⟩
      replace T := Lib.hid hH
      obtain ⟨f, rfl⟩ : ∃ f, gk = f + 1 := ⟨gk - 1, by omega⟩
      rw [Vm.loopP_eq] at hg
      have HWD := Lib.hid hwd
      have HAI := Lib.hid hai
      have hwl := Vm.wordAt_le s.data.toList at_ (by rw [Vm.strLn]; omega)
      rw [Vm.strLn, ← hwd, Vm.strLn] at hwl
      obtain ⟨cw, fw⟩ := cell1 (T.out.h.box (.head _))
      clear hH hwd hai
      by_cases he : wd.data.toList = []
      · rw [if_pos he] at hg
        have hwe : wd = ⟨#[]⟩ := str_eq (l := []) he
        subst hwe
        by_cases hlt : at_ < n
        · rw [Vm.strLn, if_pos (by omega)] at hg
          have HG := Lib.hid hg.symm
          have t2 : (at_ : Int) < (n : Int) := by omega
          clear hg he
          go_wp2_with fail
          go_ret3
          exact parseErr HG.out T.out.h.bl
        · rw [Vm.strLn, if_neg (by omega)] at hg
          have HG := Lib.hid hg.symm
          have t2 : ¬ (at_ : Int) < (n : Int) := by omega
          obtain ⟨A, c, hv, hlc, hcm, hF⟩ := T.out.freeze (l := acc) rfl rfl (flat_ins HAI.out) (fun _ h => by cases h)
          subst hv
          have CV := Lib.hid (valid_any acc A c wo ((hF.fact (.head _)).sub (fun _ h => by cases h)) (by omega))
          have HF := Lib.hid hF
          obtain ⟨vv, hvv⟩ : ∃ z, Vm.vld acc = z := ⟨_, rfl⟩
          rw [hvv] at CV
          obtain ⟨na, hna⟩ : ∃ z, acc.length = z := ⟨_, rfl⟩
          have HNA := Lib.hid hna
          have HVV := Lib.hid hvv
          rw [hna] at CV hlc ⊢
          clear hg he hvv hF hna
          by_cases h0 : vv = 0
          · subst h0
            go_wp2_with (go_at_call 18; ((with_reducible refine (CV.out).mono ?_)); rintro e w2 ⟨rfl, hb2⟩; replace HF := Lib.hid (HF.out.below hb2); clear hb2)
            go_ret3
            have hfin : Vm.parse s.data.toList = (acc, 0, 0) := by rw [HG.out]; unfold Vm.fin; rw [if_pos HVV.out]
            refine ⟨.slice A na c, by rw [hfin]; rfl, ?_, HF.out.bl⟩
            rw [hfin]
            exact ⟨A, c, by rw [HNA.out], by rw [HNA.out]; exact hlc, hcm, (HF.out.fact (.head _)).sub (fun _ h => by cases h)⟩
          · have q1 : (vv == 0) = false := by simpa using h0
            have q2 : (vv != 0) = true := by simpa using h0
            have HG2 := Lib.hid (show Vm.parse s.data.toList = ([], 0, vv) by rw [HG.out]; unfold Vm.fin; rw [if_neg (by rw [HVV.out]; exact h0), HVV.out])
            clear h0
            go_wp2_with (go_at_call 18; ((with_reducible refine (CV.out).mono ?_)); rintro e w2 ⟨rfl, hb2⟩; replace HF := Lib.hid (HF.out.below hb2); clear hb2)
            go_ret3
            exact parseErr HG2.out HF.out.bl
      · rw [if_neg he] at hg
        have e1 : wd.toList = wd.data.toList := ByteArray.toList_eq wd
        have t3 : wd.toList.isEmpty = false := by rw [e1]; cases h : wd.data.toList with | nil => exact absurd h he | cons _ _ => rfl
        have t4 : wd.data.toList.isEmpty = false := by rw [← e1]; exact t3
        have CS := Lib.hid sorts_any
        have HNE := Lib.hid he
        clear e1 he
        have HG1 := Lib.hid hg
        clear hg
        have CIX := Lib.hid (fun A W (hq : SlAt [] W A SORTQ) (hw : W.cell? ⟨Nw, 0, none⟩ = some (.string wd)) => show Calls Tryd.prog 60 #[.slice A 9 9, .func (.func 61) #[] #[.pointer (some ⟨Nw, 0, none⟩)]] W (IdxE SORTQ wd W) from idxS_any SORTQ wd A 9 Nw W hq (by decide) hw)
        go_upto_region 7 with (first | (go_at_call 45; ((with_reducible refine (CS.out _).mono ?_)); rintro e w2 ⟨rfl, hb2⟩; replace T := Lib.hid (T.out.below hb2); clear hb2 cw fw) | (refine wpList_store_new rfl _ (.tmp 8) (.tmp 26) rfl SORTL.toArray rfl rfl rfl sort_size sort_one fun W3 hr3 hb3 => ?_; replace T := Lib.hid (keep_tab T.out hr3 hb3); clear hr3 hb3))
        obtain ⟨Na, hNa⟩ : ∃ N, w2.heap.size = N := ⟨_, rfl⟩
        rw [hNa] at T ⊢
        clear hNa
        go_upto_region 8 with (go_at_call 60; ((with_reducible refine (CIX.out _ _ (row_sl0 T.out) (row_c0 T.out)).mono ?_)); rintro e w4 ⟨r, rfl, hr, hb4⟩; replace T := Lib.hid (T.out.below hb4); have HIX := Lib.hid hr; clear hr hb4)
        rcases idx_op HIX.out with ⟨rfl, ho⟩ | ⟨o, ho9, rfl, ho⟩
        · have HG := Lib.hid (show Vm.parse s.data.toList = ([], (at_ : Int), 2) by rw [← HG1.out, ho])
          clear ho
          go_wp2_with fail
          go_ret3
          exact parseErr HG.out T.out.h.bl
        · have HG0 := Lib.hid (show _ = Vm.parse s.data.toList from by rw [← HG1.out, ho])
          dsimp only at HG0
          clear ho HIX HG1
          obtain ⟨Nv, hNv⟩ : ∃ N, w4.heap.size = N := ⟨_, rfl⟩
          have ko : (0 : Int) ≤ (o : Int) := Int.natCast_nonneg _
          have ko9 : (o : Int) < 9 := by omega
          replace T := Lib.hid (T.out.new #[.int .i64 0, .int .i64 0, .int .i64 0] 109 hNv)
          obtain ⟨s1, s2, s3⟩ := tab_cells (T.out.h.fact (.head _)) o ho9
          have t5 : decide ((o : Int) < 0) = false := decide_eq_false (by omega)
          have inI0 : inI 0 := by unfold inI; omega
          have hwpos : 0 < wd.size := by
            rcases Nat.eq_zero_or_pos wd.size with h | h
            · exact absurd (List.eq_nil_of_length_eq_zero (by rw [Vm.strLn]; exact h)) HNE.out
            · exact h
          clear t3 t4
          go_wp2_with fail
          go_loopg [6, 37] 3 (fun r a i wr2 => ∃ (jj at' : Nat) (wd' : ByteArray) (x0 x1 x2 : Int) (M' : List Nat), jj + r = 3 ∧ i = .int .i64 jj ∧ a = .int .i64 at' ∧ at_ ≤ at' ∧ at' ≤ n ∧ at_ + 1 ≤ at' + wd'.size ∧ wd'.data.toList = Vm.wordAt s.data.toList at' ∧ inI x0 ∧ inI x1 ∧ inI x2 ∧ ((jj ≤ 0 → x0 = 0) ∧ (jj ≤ 1 → x1 = 0) ∧ (jj ≤ 2 → x2 = 0)) ∧ Vm.argsP s.data.toList (Vm.sorts3 o) at_ wd.data.toList = Vm.app ([x0, x1, x2].take jj) (Vm.argsP s.data.toList ((Vm.sorts3 o).drop jj) at' wd'.data.toList) ∧ HRow w [] M' [(Nv, 109, #[.int .i64 x0, .int .i64 x1, .int .i64 x2]), (Nw, 9, #[.string wd'])] [fun M W => SlAt M W (some ⟨Na, 0, none⟩) SORTQ] 104 4 u5 acc.length (insVals acc) wr2)
          case atStart => exact ⟨0, at_, wd, 0, 0, 0, _, rfl, rfl, rfl, Nat.le_refl _, hat, by omega, HWD.out, inI0, inI0, inI0, ⟨fun _ => rfl, fun _ => rfl, fun _ => rfl⟩, by rw [List.take_zero, Vm.app_nil]; rfl, T.out⟩
          case round =>
            obtain ⟨jj, at', wd', x0, x1, x2, M', hj, rfl, rfl, hle', hat', hpr, hwd', hi0, hi1, hi2, hzr, harg, hHH⟩ := hrel
            replace T := Lib.hid hHH
            have HARG := Lib.hid harg
            have HWD' := Lib.hid hwd'
            clear hHH harg hwd' s1 s2 s3 t5
            obtain ⟨wi, rfl⟩ : ∃ wo : World, wo = wr := ⟨_, rfl⟩
            rcases (show jj = 0 ∨ jj = 1 ∨ jj = 2 ∨ jj = 3 by omega) with rfl | rfl | rfl | rfl
            · rw [show ((0 : Nat) : Int) = 0 from rfl]
              obtain rfl := hzr.1 (by decide)
              obtain rfl := hzr.2.1 (by decide)
              obtain rfl := hzr.2.2 (by decide)
              have ix : ∀ w, (Instr.index 109 (.agg #[.int .i64 ((Vm.sortOf (o : Int) 0 : Nat) : Int), .int .i64 ((Vm.sortOf (o : Int) 1 : Nat) : Int), .int .i64 ((Vm.sortOf (o : Int) 2 : Nat) : Int)]) (.int .i64 0)).run Tryd.prog w = .ok (.int .i64 ((Vm.sortOf (o : Int) 0 : Nat) : Int)) w := fun w => index_three _ _ _ 0 (by decide) w
              have hdr : (Vm.sorts3 o).drop 0 = Vm.sortOf (o : Int) 0 :: (Vm.sorts3 o).drop 1 := rfl
              by_cases hz : Vm.sortOf (o : Int) 0 = 0
              · have t7 : (((Vm.sortOf (o : Int) 0 : Nat) : Int) == 0) = true := by rw [hz]; rfl
                have t8 : (Vm.sortOf (o : Int) 0 == 0) = true := by rw [hz]; rfl
                have HAN := Lib.hid (show Vm.argsP s.data.toList (Vm.sorts3 o) at_ wd.data.toList = Vm.app ([0, 0, 0].take 1) (Vm.argsP s.data.toList ((Vm.sorts3 o).drop 1) at' wd'.data.toList) by rw [HARG.out, hdr, hz, Vm.argsP_z, Vm.app_app]; rfl)
                clear hz hdr hzr
                go_wp2_with fail
                go_roundg (gk - 1)
                case measure => omega
                case rel => exact ⟨1, at', wd', 0, 0, 0, _, by omega, by first | rfl | go_num, rfl, hle', hat', hpr, HWD'.out, inI0, inI0, inI0, ⟨fun h => absurd h (by omega), fun _ => rfl, fun _ => rfl⟩, HAN.out, T.out⟩
              · have t7 : (((Vm.sortOf (o : Int) 0 : Nat) : Int) == 0) = false := by rw [beq_eq_false_iff_ne]; omega
                have t8 : (Vm.sortOf (o : Int) 0 == 0) = false := beq_eq_false_iff_ne.2 hz
                have hwl := Vm.wordAt_le s.data.toList at' (by rw [Vm.strLn]; omega)
                rw [Vm.strLn, ← HWD'.out, Vm.strLn] at hwl
                have htl := Vm.tokAt_le (s := s.data.toList) (a := at' + wd'.size) (by rw [Vm.strLn]; omega)
                have CT := Lib.hid (fun W => show Calls Tryd.prog 59 #[.string s, .int .i64 ((at' : Int) + (wd'.size : Int))] W _ from by rw [← Int.natCast_add]; exact token_any s (at' + wd'.size) W (by omega) (by omega))
                have hbad := fun (h : Vm.numOf (Vm.tokAt s.data.toList (at' + wd'.data.toList.length)).2 = none) => Vm.argsP_b (s := s.data.toList) (ks := (Vm.sorts3 o).drop 1) hz h
                have hgood := fun n (h : Vm.numOf (Vm.tokAt s.data.toList (at' + wd'.data.toList.length)).2 = some n) => Vm.argsP_n (s := s.data.toList) (ks := (Vm.sorts3 o).drop 1) hz h
                rw [Vm.strLn] at hbad hgood
                obtain ⟨at2, ha2⟩ : ∃ a, (Vm.tokAt s.data.toList (at' + wd'.size)).1 = a := ⟨_, rfl⟩
                obtain ⟨wd2, hw2⟩ : ∃ b : ByteArray, (⟨(Vm.tokAt s.data.toList (at' + wd'.size)).2.toArray⟩ : ByteArray) = b := ⟨_, rfl⟩
                have hwl2 : wd2.data.toList = (Vm.tokAt s.data.toList (at' + wd'.size)).2 := by rw [← hw2]
                rw [ha2, ← hwl2] at hbad hgood
                rw [ha2, ← hwl2, Vm.strLn, Vm.strLn] at htl
                unfold TokP at CT
                simp only [ha2, hw2] at CT
                have CNU := Lib.hid (fun W => number_any wd2 W (by omega) (by rw [htl.2.2.1]; exact Vm.wordAt_ascii))
                have HWD2 := Lib.hid htl.2.2.1
                have h21 := htl.1; have h22 := htl.2.1; have h23 := htl.2.2.2
                unfold NumP at CNU
                obtain ⟨cw, fw⟩ := cell1 (T.out.h.box (.tail _ (.head _)))
                obtain ⟨nr, hnr⟩ : ∃ z, numR wd2.data.toList = z := ⟨_, rfl⟩
                cases hnum : Vm.numOk wd2.data.toList
                · have HG := Lib.hid (show Vm.parse s.data.toList = ([], (at2 : Int), 2) by
                    rw [← HG0.out, HARG.out, hdr, hbad (Vm.numOf_none hnum)]; rfl)
                  rw [hnum, hnr] at CNU
                  clear hz ha2 hw2 hwl2 htl hnum hnr hbad hgood hdr hzr
                  go_wp2_with (first | (go_at_call 59; ((with_reducible refine (CT.out _).mono ?_)); rintro e w3 ⟨rfl, hb3⟩; replace T := Lib.hid (T.out.below hb3); clear hb3 cw fw; obtain ⟨cw, fw⟩ := cell1 (T.out.h.box (.tail _ (.head _)))) | (go_at_call 62; ((with_reducible refine (CNU.out _).mono ?_)); rintro e w5 ⟨rfl, hb5⟩; replace T := Lib.hid ((T.out.set_ (bx1 := [_]) 0 (.string wd2)).below hb5); clear hb5))
                  go_ret3
                  exact parseErr HG.out T.out.h.bl
                · have hnv : numR wd2.data.toList = Vm.numV wd2.data.toList := by unfold numR; rw [hnum]; rfl
                  have hin : inI nr := by rw [← hnr, hnv]; exact Vm.numV_in hnum
                  have HAN := Lib.hid (show Vm.argsP s.data.toList (Vm.sorts3 o) at_ wd.data.toList = Vm.app ([nr, 0, 0].take 1) (Vm.argsP s.data.toList ((Vm.sorts3 o).drop 1) at2 wd2.data.toList) by rw [HARG.out, hdr, hgood nr (by rw [← hnr, hnv]; exact Vm.numOf_some hnum), Vm.app_app]; rfl)
                  rw [hnum, hnr] at CNU
                  clear hz ha2 hw2 hwl2 htl hnum hnr hbad hgood hdr hzr hnv
                  go_wp2_with (first | (go_at_call 59; ((with_reducible refine (CT.out _).mono ?_)); rintro e w3 ⟨rfl, hb3⟩; replace T := Lib.hid (T.out.below hb3); clear hb3 cw fw; obtain ⟨cw, fw⟩ := cell1 (T.out.h.box (.tail _ (.head _)))) | (go_at_call 62; ((with_reducible refine (CNU.out _).mono ?_)); rintro e w5 ⟨rfl, hb5⟩; replace T := Lib.hid ((T.out.set_ (bx1 := [_]) 0 (.string wd2)).below hb5); clear hb5; obtain ⟨g0, g1, g2, m0, m1, m2⟩ := cell3 (T.out.h.box (.head _))))
                  replace T := Lib.hid (T.out.set_ (bx1 := []) 0 (.int .i64 nr))
                  go_roundg (gk - 1)
                  case measure => omega
                  case rel => exact ⟨1, at2, wd2, nr, 0, 0, _, by omega, by first | rfl | go_num, rfl, by omega, by omega, by omega, HWD2.out, hin, inI0, inI0, ⟨fun h => absurd h (by omega), fun _ => rfl, fun _ => rfl⟩, HAN.out, T.out⟩
            · rw [show ((1 : Nat) : Int) = 1 from rfl]
              obtain rfl := hzr.2.1 (by decide)
              obtain rfl := hzr.2.2 (by decide)
              have ix : ∀ w, (Instr.index 109 (.agg #[.int .i64 ((Vm.sortOf (o : Int) 0 : Nat) : Int), .int .i64 ((Vm.sortOf (o : Int) 1 : Nat) : Int), .int .i64 ((Vm.sortOf (o : Int) 2 : Nat) : Int)]) (.int .i64 1)).run Tryd.prog w = .ok (.int .i64 ((Vm.sortOf (o : Int) 1 : Nat) : Int)) w := fun w => index_three _ _ _ 1 (by decide) w
              have hdr : (Vm.sorts3 o).drop 1 = Vm.sortOf (o : Int) 1 :: (Vm.sorts3 o).drop 2 := rfl
              by_cases hz : Vm.sortOf (o : Int) 1 = 0
              · have t7 : (((Vm.sortOf (o : Int) 1 : Nat) : Int) == 0) = true := by rw [hz]; rfl
                have t8 : (Vm.sortOf (o : Int) 1 == 0) = true := by rw [hz]; rfl
                have HAN := Lib.hid (show Vm.argsP s.data.toList (Vm.sorts3 o) at_ wd.data.toList = Vm.app ([x0, 0, 0].take 2) (Vm.argsP s.data.toList ((Vm.sorts3 o).drop 2) at' wd'.data.toList) by rw [HARG.out, hdr, hz, Vm.argsP_z, Vm.app_app]; rfl)
                clear hz hdr hzr
                go_wp2_with fail
                go_roundg (gk - 1)
                case measure => omega
                case rel => exact ⟨2, at', wd', x0, 0, 0, _, by omega, by first | rfl | go_num, rfl, hle', hat', hpr, HWD'.out, hi0, inI0, inI0, ⟨fun h => absurd h (by omega), fun h => absurd h (by omega), fun _ => rfl⟩, HAN.out, T.out⟩
              · have t7 : (((Vm.sortOf (o : Int) 1 : Nat) : Int) == 0) = false := by rw [beq_eq_false_iff_ne]; omega
                have t8 : (Vm.sortOf (o : Int) 1 == 0) = false := beq_eq_false_iff_ne.2 hz
                have hwl := Vm.wordAt_le s.data.toList at' (by rw [Vm.strLn]; omega)
                rw [Vm.strLn, ← HWD'.out, Vm.strLn] at hwl
                have htl := Vm.tokAt_le (s := s.data.toList) (a := at' + wd'.size) (by rw [Vm.strLn]; omega)
                have CT := Lib.hid (fun W => show Calls Tryd.prog 59 #[.string s, .int .i64 ((at' : Int) + (wd'.size : Int))] W _ from by rw [← Int.natCast_add]; exact token_any s (at' + wd'.size) W (by omega) (by omega))
                have hbad := fun (h : Vm.numOf (Vm.tokAt s.data.toList (at' + wd'.data.toList.length)).2 = none) => Vm.argsP_b (s := s.data.toList) (ks := (Vm.sorts3 o).drop 2) hz h
                have hgood := fun n (h : Vm.numOf (Vm.tokAt s.data.toList (at' + wd'.data.toList.length)).2 = some n) => Vm.argsP_n (s := s.data.toList) (ks := (Vm.sorts3 o).drop 2) hz h
                rw [Vm.strLn] at hbad hgood
                obtain ⟨at2, ha2⟩ : ∃ a, (Vm.tokAt s.data.toList (at' + wd'.size)).1 = a := ⟨_, rfl⟩
                obtain ⟨wd2, hw2⟩ : ∃ b : ByteArray, (⟨(Vm.tokAt s.data.toList (at' + wd'.size)).2.toArray⟩ : ByteArray) = b := ⟨_, rfl⟩
                have hwl2 : wd2.data.toList = (Vm.tokAt s.data.toList (at' + wd'.size)).2 := by rw [← hw2]
                rw [ha2, ← hwl2] at hbad hgood
                rw [ha2, ← hwl2, Vm.strLn, Vm.strLn] at htl
                unfold TokP at CT
                simp only [ha2, hw2] at CT
                have CNU := Lib.hid (fun W => number_any wd2 W (by omega) (by rw [htl.2.2.1]; exact Vm.wordAt_ascii))
                have HWD2 := Lib.hid htl.2.2.1
                have h21 := htl.1; have h22 := htl.2.1; have h23 := htl.2.2.2
                unfold NumP at CNU
                obtain ⟨cw, fw⟩ := cell1 (T.out.h.box (.tail _ (.head _)))
                obtain ⟨nr, hnr⟩ : ∃ z, numR wd2.data.toList = z := ⟨_, rfl⟩
                cases hnum : Vm.numOk wd2.data.toList
                · have HG := Lib.hid (show Vm.parse s.data.toList = ([], (at2 : Int), 2) by
                    rw [← HG0.out, HARG.out, hdr, hbad (Vm.numOf_none hnum)]; rfl)
                  rw [hnum, hnr] at CNU
                  clear hz ha2 hw2 hwl2 htl hnum hnr hbad hgood hdr hzr
                  go_wp2_with (first | (go_at_call 59; ((with_reducible refine (CT.out _).mono ?_)); rintro e w3 ⟨rfl, hb3⟩; replace T := Lib.hid (T.out.below hb3); clear hb3 cw fw; obtain ⟨cw, fw⟩ := cell1 (T.out.h.box (.tail _ (.head _)))) | (go_at_call 62; ((with_reducible refine (CNU.out _).mono ?_)); rintro e w5 ⟨rfl, hb5⟩; replace T := Lib.hid ((T.out.set_ (bx1 := [_]) 0 (.string wd2)).below hb5); clear hb5))
                  go_ret3
                  exact parseErr HG.out T.out.h.bl
                · have hnv : numR wd2.data.toList = Vm.numV wd2.data.toList := by unfold numR; rw [hnum]; rfl
                  have hin : inI nr := by rw [← hnr, hnv]; exact Vm.numV_in hnum
                  have HAN := Lib.hid (show Vm.argsP s.data.toList (Vm.sorts3 o) at_ wd.data.toList = Vm.app ([x0, nr, 0].take 2) (Vm.argsP s.data.toList ((Vm.sorts3 o).drop 2) at2 wd2.data.toList) by rw [HARG.out, hdr, hgood nr (by rw [← hnr, hnv]; exact Vm.numOf_some hnum), Vm.app_app]; rfl)
                  rw [hnum, hnr] at CNU
                  clear hz ha2 hw2 hwl2 htl hnum hnr hbad hgood hdr hzr hnv
                  go_wp2_with (first | (go_at_call 59; ((with_reducible refine (CT.out _).mono ?_)); rintro e w3 ⟨rfl, hb3⟩; replace T := Lib.hid (T.out.below hb3); clear hb3 cw fw; obtain ⟨cw, fw⟩ := cell1 (T.out.h.box (.tail _ (.head _)))) | (go_at_call 62; ((with_reducible refine (CNU.out _).mono ?_)); rintro e w5 ⟨rfl, hb5⟩; replace T := Lib.hid ((T.out.set_ (bx1 := [_]) 0 (.string wd2)).below hb5); clear hb5; obtain ⟨g0, g1, g2, m0, m1, m2⟩ := cell3 (T.out.h.box (.head _))))
                  replace T := Lib.hid (T.out.set_ (bx1 := []) 1 (.int .i64 nr))
                  go_roundg (gk - 1)
                  case measure => omega
                  case rel => exact ⟨2, at2, wd2, x0, nr, 0, _, by omega, by first | rfl | go_num, rfl, by omega, by omega, by omega, HWD2.out, hi0, hin, inI0, ⟨fun h => absurd h (by omega), fun h => absurd h (by omega), fun _ => rfl⟩, HAN.out, T.out⟩
            · rw [show ((2 : Nat) : Int) = 2 from rfl]
              obtain rfl := hzr.2.2 (by decide)
              have ix : ∀ w, (Instr.index 109 (.agg #[.int .i64 ((Vm.sortOf (o : Int) 0 : Nat) : Int), .int .i64 ((Vm.sortOf (o : Int) 1 : Nat) : Int), .int .i64 ((Vm.sortOf (o : Int) 2 : Nat) : Int)]) (.int .i64 2)).run Tryd.prog w = .ok (.int .i64 ((Vm.sortOf (o : Int) 2 : Nat) : Int)) w := fun w => index_three _ _ _ 2 (by decide) w
              have hdr : (Vm.sorts3 o).drop 2 = Vm.sortOf (o : Int) 2 :: (Vm.sorts3 o).drop 3 := rfl
              by_cases hz : Vm.sortOf (o : Int) 2 = 0
              · have t7 : (((Vm.sortOf (o : Int) 2 : Nat) : Int) == 0) = true := by rw [hz]; rfl
                have t8 : (Vm.sortOf (o : Int) 2 == 0) = true := by rw [hz]; rfl
                have HAN := Lib.hid (show Vm.argsP s.data.toList (Vm.sorts3 o) at_ wd.data.toList = Vm.app ([x0, x1, 0].take 3) (Vm.argsP s.data.toList ((Vm.sorts3 o).drop 3) at' wd'.data.toList) by rw [HARG.out, hdr, hz, Vm.argsP_z, Vm.app_app]; rfl)
                clear hz hdr hzr
                go_wp2_with fail
                go_roundg (gk - 1)
                case measure => omega
                case rel => exact ⟨3, at', wd', x0, x1, 0, _, by omega, by first | rfl | go_num, rfl, hle', hat', hpr, HWD'.out, hi0, hi1, inI0, ⟨fun h => absurd h (by omega), fun h => absurd h (by omega), fun h => absurd h (by omega)⟩, HAN.out, T.out⟩
              · have t7 : (((Vm.sortOf (o : Int) 2 : Nat) : Int) == 0) = false := by rw [beq_eq_false_iff_ne]; omega
                have t8 : (Vm.sortOf (o : Int) 2 == 0) = false := beq_eq_false_iff_ne.2 hz
                have hwl := Vm.wordAt_le s.data.toList at' (by rw [Vm.strLn]; omega)
                rw [Vm.strLn, ← HWD'.out, Vm.strLn] at hwl
                have htl := Vm.tokAt_le (s := s.data.toList) (a := at' + wd'.size) (by rw [Vm.strLn]; omega)
                have CT := Lib.hid (fun W => show Calls Tryd.prog 59 #[.string s, .int .i64 ((at' : Int) + (wd'.size : Int))] W _ from by rw [← Int.natCast_add]; exact token_any s (at' + wd'.size) W (by omega) (by omega))
                have hbad := fun (h : Vm.numOf (Vm.tokAt s.data.toList (at' + wd'.data.toList.length)).2 = none) => Vm.argsP_b (s := s.data.toList) (ks := (Vm.sorts3 o).drop 3) hz h
                have hgood := fun n (h : Vm.numOf (Vm.tokAt s.data.toList (at' + wd'.data.toList.length)).2 = some n) => Vm.argsP_n (s := s.data.toList) (ks := (Vm.sorts3 o).drop 3) hz h
                rw [Vm.strLn] at hbad hgood
                obtain ⟨at2, ha2⟩ : ∃ a, (Vm.tokAt s.data.toList (at' + wd'.size)).1 = a := ⟨_, rfl⟩
                obtain ⟨wd2, hw2⟩ : ∃ b : ByteArray, (⟨(Vm.tokAt s.data.toList (at' + wd'.size)).2.toArray⟩ : ByteArray) = b := ⟨_, rfl⟩
                have hwl2 : wd2.data.toList = (Vm.tokAt s.data.toList (at' + wd'.size)).2 := by rw [← hw2]
                rw [ha2, ← hwl2] at hbad hgood
                rw [ha2, ← hwl2, Vm.strLn, Vm.strLn] at htl
                unfold TokP at CT
                simp only [ha2, hw2] at CT
                have CNU := Lib.hid (fun W => number_any wd2 W (by omega) (by rw [htl.2.2.1]; exact Vm.wordAt_ascii))
                have HWD2 := Lib.hid htl.2.2.1
                have h21 := htl.1; have h22 := htl.2.1; have h23 := htl.2.2.2
                unfold NumP at CNU
                obtain ⟨cw, fw⟩ := cell1 (T.out.h.box (.tail _ (.head _)))
                obtain ⟨nr, hnr⟩ : ∃ z, numR wd2.data.toList = z := ⟨_, rfl⟩
                cases hnum : Vm.numOk wd2.data.toList
                · have HG := Lib.hid (show Vm.parse s.data.toList = ([], (at2 : Int), 2) by
                    rw [← HG0.out, HARG.out, hdr, hbad (Vm.numOf_none hnum)]; rfl)
                  rw [hnum, hnr] at CNU
                  clear hz ha2 hw2 hwl2 htl hnum hnr hbad hgood hdr hzr
                  go_wp2_with (first | (go_at_call 59; ((with_reducible refine (CT.out _).mono ?_)); rintro e w3 ⟨rfl, hb3⟩; replace T := Lib.hid (T.out.below hb3); clear hb3 cw fw; obtain ⟨cw, fw⟩ := cell1 (T.out.h.box (.tail _ (.head _)))) | (go_at_call 62; ((with_reducible refine (CNU.out _).mono ?_)); rintro e w5 ⟨rfl, hb5⟩; replace T := Lib.hid ((T.out.set_ (bx1 := [_]) 0 (.string wd2)).below hb5); clear hb5))
                  go_ret3
                  exact parseErr HG.out T.out.h.bl
                · have hnv : numR wd2.data.toList = Vm.numV wd2.data.toList := by unfold numR; rw [hnum]; rfl
                  have hin : inI nr := by rw [← hnr, hnv]; exact Vm.numV_in hnum
                  have HAN := Lib.hid (show Vm.argsP s.data.toList (Vm.sorts3 o) at_ wd.data.toList = Vm.app ([x0, x1, nr].take 3) (Vm.argsP s.data.toList ((Vm.sorts3 o).drop 3) at2 wd2.data.toList) by rw [HARG.out, hdr, hgood nr (by rw [← hnr, hnv]; exact Vm.numOf_some hnum), Vm.app_app]; rfl)
                  rw [hnum, hnr] at CNU
                  clear hz ha2 hw2 hwl2 htl hnum hnr hbad hgood hdr hzr hnv
                  go_wp2_with (first | (go_at_call 59; ((with_reducible refine (CT.out _).mono ?_)); rintro e w3 ⟨rfl, hb3⟩; replace T := Lib.hid (T.out.below hb3); clear hb3 cw fw; obtain ⟨cw, fw⟩ := cell1 (T.out.h.box (.tail _ (.head _)))) | (go_at_call 62; ((with_reducible refine (CNU.out _).mono ?_)); rintro e w5 ⟨rfl, hb5⟩; replace T := Lib.hid ((T.out.set_ (bx1 := [_]) 0 (.string wd2)).below hb5); clear hb5; obtain ⟨g0, g1, g2, m0, m1, m2⟩ := cell3 (T.out.h.box (.head _))))
                  replace T := Lib.hid (T.out.set_ (bx1 := []) 2 (.int .i64 nr))
                  go_roundg (gk - 1)
                  case measure => omega
                  case rel => exact ⟨3, at2, wd2, x0, x1, nr, _, by omega, by first | rfl | go_num, rfl, by omega, by omega, by omega, HWD2.out, hi0, hi1, hin, ⟨fun h => absurd h (by omega), fun h => absurd h (by omega), fun h => absurd h (by omega)⟩, HAN.out, T.out⟩
            · rw [show ((3 : Nat) : Int) = 3 from rfl]
              have hwl := Vm.wordAt_le s.data.toList at' (by rw [Vm.strLn]; omega)
              rw [Vm.strLn, ← HWD'.out, Vm.strLn] at hwl
              have htl := Vm.tokAt_le (s := s.data.toList) (a := at' + wd'.size) (by rw [Vm.strLn]; omega)
              have CT := Lib.hid (fun W => show Calls Tryd.prog 59 #[.string s, .int .i64 ((at' : Int) + (wd'.size : Int))] W _ from by rw [← Int.natCast_add]; exact token_any s (at' + wd'.size) W (by omega) (by omega))
              have hgo : Vm.loopP s.data.toList f (Vm.tokAt s.data.toList (at' + wd'.size)).1 (Vm.tokAt s.data.toList (at' + wd'.size)).2 (acc ++ [((o : Int), x0, x1, x2)]) = Vm.parse s.data.toList := by
                have h := HG0.out
                rw [HARG.out, show (Vm.sorts3 o).drop 3 = [] from rfl, Vm.argsP_nil] at h
                simp only [Vm.app] at h
                rw [Vm.strLn] at h
                exact h
              obtain ⟨at2, ha2⟩ : ∃ a, (Vm.tokAt s.data.toList (at' + wd'.size)).1 = a := ⟨_, rfl⟩
              obtain ⟨wd2, hw2⟩ : ∃ b : ByteArray, (⟨(Vm.tokAt s.data.toList (at' + wd'.size)).2.toArray⟩ : ByteArray) = b := ⟨_, rfl⟩
              have hwl2 : wd2.data.toList = (Vm.tokAt s.data.toList (at' + wd'.size)).2 := by rw [← hw2]
              rw [ha2, ← hwl2] at hgo
              rw [ha2, ← hwl2, Vm.strLn, Vm.strLn] at htl
              unfold TokP at CT
              simp only [ha2, hw2] at CT
              have HWD2 := Lib.hid htl.2.2.1
              have h21 := htl.1; have h22 := htl.2.1
              have HGO := Lib.hid hgo
              have HAI2 := Lib.hid (show AllIns (acc ++ [((o : Int), x0, x1, x2)]) from fun i hi => by
                rcases List.mem_append.1 hi with h | h
                · exact HAI.out i h
                · rw [List.mem_singleton.1 h]; exact ⟨by unfold inI; omega, hi0, hi1, hi2⟩)
              have HVS := Lib.hid (insVals_snoc acc ((o : Int), x0, x1, x2))
              obtain ⟨g0, g1, g2, m0, m1, m2⟩ := cell3 (T.out.h.box (.head _))
              obtain ⟨na, hna⟩ : ∃ z, acc.length = z := ⟨_, rfl⟩
              have HNA := Lib.hid (show (acc ++ [((o : Int), x0, x1, x2)]).length = na + 1 by rw [List.length_append, hna]; rfl)
              rw [hna] at T hacl
              clear hgo ha2 hw2 hwl2 htl hzr hna
              go_wp2_with (first | (at_builtin; obtain ⟨hi, hz0, hz1, hz2⟩ := HII.out; refine wpList_append_row (by rfl) _ _ 43 (by rfl) 104 i0 _ 4 32 Tryd.underlying43 hi hz0 hz1 hz2 rfl (by decide) (T.out.below ((Below.refl _ _).alloc (Nat.le_refl _) _)) (by rfl) _ _ 1 1 (insCells ((o : Int), x0, x1, x2)) (by rfl) (reads_blk (Blk.new _ _ _) rfl) (insCells_one _) (by unfold maxLen; omega) (by omega) ?_; intro v5 w5 M5 h5 _; rw [← HVS.out, ← HNA.out] at h5; replace T := Lib.hid h5; clear h5 hi hz0 hz1 hz2 g0 g1 g2 m0 m1 m2; obtain ⟨cw, fw⟩ := cell1 (T.out.h.box (.tail _ (.head _)))) | (go_at_call 59; ((with_reducible refine (CT.out _).mono ?_)); rintro e w3 ⟨rfl, hb3⟩; replace T := Lib.hid (T.out.below hb3); clear hb3 cw fw; obtain ⟨cw, fw⟩ := cell1 (T.out.h.box (.tail _ (.head _)))))
              replace T := Lib.hid (T.out.set_ (bx1 := [_]) 0 (.string wd2))
              go_roundg f
              case measure => omega
              case rel => exact ⟨at2, wd2, _, _, rfl, by omega, HWD2.out, by omega, by rw [HNA.out]; omega, HAI2.out, HGO.out, (T.out.rest rfl).less (fun _ h => by cases h)⟩
end Go.Proofs.YtdpcdocaahjeoaaDoor
