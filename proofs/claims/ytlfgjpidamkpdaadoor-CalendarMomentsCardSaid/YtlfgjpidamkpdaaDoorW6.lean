/- The calendar's Parse. -/
import Derived.Test.YtlfgjpidamkpdaaDoorW5
import Derived.Lib.AtoiAllCases
import Derived.Lib.AtoiErrMem
namespace Go.Proofs.YtlfgjpidamkpdaaDoor
open Go.RowKit Go.Sort
open Cal (atOk atV)
def IsErr : Bool → Value → Prop
  | true, ev => ev = .nilIface
  | false, ev => ∃ N, ev = .iface 79 (.pointer (some ⟨N, 0, none⟩))
theorem atoi_any (s : ByteArray) (w : World) (hs : s.size ≤ 281474976710656) (ht : TEnv w) :
    Calls Tryd.prog 46 #[.string s] w fun e w' => ∃ (n : Int) (ev : Value), e = .returned (.tuple #[.int .i64 n, ev]) ∧ IsErr (atOk s.data.toList) ev ∧ (atOk s.data.toList = true → n = atV s.data.toList) ∧ -9223372036854775808 ≤ n ∧ n ≤ 9223372036854775807 ∧ Below w.heap.size w w' := by
  obtain ⟨_, ⟨a, b, h2⟩, ⟨c, d, h3⟩, _⟩ := ht
  cases hh : Lib.atoiAll s.data.toList
  · rename_i v
    refine (Any.strconv_Atoi_ok Tryd.laysC172 s (by omega) v hh w).mono ?_
    rintro e w' ⟨rfl, hw⟩
    have hbd := Lib.atoiAll_bounds hh
    refine ⟨v, .nilIface, rfl, ?_, ?_, hbd.1, hbd.2, ?_⟩
    · unfold atOk; rw [hh]; exact rfl
    · intro _; unfold atV; rw [hh]
    · rcases hw with rfl | ⟨t, rfl⟩
      · exact Below.refl _ _
      · exact Lib.bytesWorld_below _ _ _
  · refine (Any.strconv_Atoi_syntax_var Tryd.laysC172 s hs hh a b w h2).mono ?_
    rintro e w' ⟨N, rfl, _, _, hb⟩
    refine ⟨_, _, rfl, ?_, ?_, ?_, ?_, hb⟩
    · unfold atOk; rw [hh]; exact ⟨N, rfl⟩
    · unfold atOk; rw [hh]; intro h; cases h
    · first | decide | (unfold Lib.atoiSat; split <;> decide)
    · first | decide | (unfold Lib.atoiSat; split <;> decide)
  · refine (Any.strconv_Atoi_range_var Tryd.laysC172 s hs hh c d w h3).mono ?_
    rintro e w' ⟨N, rfl, _, _, hb⟩
    refine ⟨_, _, rfl, ?_, ?_, ?_, ?_, hb⟩
    · unfold atOk; rw [hh]; exact ⟨N, rfl⟩
    · unfold atOk; rw [hh]; intro h; cases h
    · first | decide | (unfold Lib.atoiSat; split <;> decide)
    · first | decide | (unfold Lib.atoiSat; split <;> decide)
theorem ext_list (s : ByteArray) (a b : Nat) : (s.extract a b).data.toList = (s.data.toList.take b).drop a := by
  rw [ByteArray.data_extract, Array.toList_extract, List.extract_eq_take_drop, List.drop_take]
theorem size_list (s : ByteArray) : s.data.toList.length = s.size := Array.length_toList
theorem ext_size_le (s : ByteArray) (a b : Nat) (h : s.size ≤ 100) : (s.extract a b).size ≤ 281474976710656 := by
  rw [ByteArray.size_extract]; omega
set_option maxHeartbeats 2000000 in
theorem parse_bad (s : ByteArray) (w : World) (ht : TEnv w) (hs : s.size = 10)
    (hn : (atOk (s.extract 0 4).data.toList && atOk (s.extract 5 7).data.toList && atOk (s.extract 8 10).data.toList) = false) :
    Calls Tryd.prog 22 #[.string s] w fun e w' => e = .returned (.tuple #[.int .i64 0, .int .i64 2]) ∧ Below w.heap.size w w' := by
  have hb := Below.refl w.heap.size w
  have ht0 := ht
  have hsz := ht.sz
  cases hA : atOk (s.extract 0 4).data.toList <;> cases hB : atOk (s.extract 5 7).data.toList <;> cases hC : atOk (s.extract 8 10).data.toList
  all_goals
    rw [hA, hB, hC] at hn
    first | (exfalso; revert hn; decide) | skip
  all_goals
    clear hn
    have KA := Lib.hid hA; have KB := Lib.hid hB; have KC := Lib.hid hC
    clear hA hB hC
    go_enter Tryd.func22, Tryd.ntmps22
    go_wp2_with fail
    refine (atoi_any _ _ (ext_size_le s _ _ (by omega)) ht).mono ?_
    rintro e w1 ⟨n1, ev1, rfl, hE1, -, hn1, hn2, hb1⟩
    rw [KA.out] at hE1
    have hb := hb.trans (hb1.mono hb.size)
    clear hb1
    have ht := ht0.below hb hsz
    first | (obtain ⟨N1, rfl⟩ := hE1) | (obtain rfl := hE1)
    go_wp2_with fail
    refine (atoi_any _ _ (ext_size_le s _ _ (by omega)) ht).mono ?_
    rintro e w2 ⟨n2, ev2, rfl, hE2, -, hn3, hn4, hb1⟩
    rw [KB.out] at hE2
    have hb := hb.trans (hb1.mono hb.size)
    clear hb1
    have ht := ht0.below hb hsz
    first | (obtain ⟨N2, rfl⟩ := hE2) | (obtain rfl := hE2)
    go_wp2_with fail
    refine (atoi_any _ _ (ext_size_le s _ _ (by omega)) ht).mono ?_
    rintro e w3 ⟨n3, ev3, rfl, hE3, -, hn5, hn6, hb1⟩
    rw [KC.out] at hE3
    have hb := hb.trans (hb1.mono hb.size)
    clear hb1
    have ht := ht0.below hb hsz
    first | (obtain ⟨N3, rfl⟩ := hE3) | (obtain rfl := hE3)
    go_wp2_with fail
    go_ret2
    exact ⟨rfl, hb⟩
theorem atoi_good (s : ByteArray) (a : Int) (w : World) (hs : s.size ≤ 281474976710656) (ht : TEnv w) (h : Hid (atOk s.data.toList = true ∧ atV s.data.toList = a)) :
    Calls Tryd.prog 46 #[.string s] w fun e w' => e = .returned (.tuple #[.int .i64 a, .nilIface]) ∧ Below w.heap.size w w' :=
  (atoi_any s w hs ht).mono fun e w' ⟨n, ev, he, hE, hV, _, _, hb⟩ => by
    obtain ⟨h1, h2⟩ := h.out
    rw [h1] at hE
    obtain rfl := hE
    rw [hV h1, h2] at he
    exact ⟨he, hb⟩
set_option maxHeartbeats 2000000 in
theorem parse_yes (s : ByteArray) (a b c : Int) (w : World) (ht : TEnv w) (hs : s.size = 10) (hc : c ≤ 9223372036854775807)
    (hA : Hid (atOk (s.extract 0 4).data.toList = true ∧ atV (s.extract 0 4).data.toList = a))
    (hB : Hid (atOk (s.extract 5 7).data.toList = true ∧ atV (s.extract 5 7).data.toList = b))
    (hC : Hid (atOk (s.extract 8 10).data.toList = true ∧ atV (s.extract 8 10).data.toList = c))
    (V : Int) (hV : Hid (Cal.dayV a b c = V)) (hE : Hid (Cal.dayE a b c = 0)) (hx : (Cal.txt V == s.toList) = true) :
    Calls Tryd.prog 22 #[.string s] w fun e w' => e = .returned (.tuple #[.int .i64 V, .int .i64 0]) ∧ Below w.heap.size w w' := by
  have hb := Below.refl w.heap.size w
  have ht0 := ht
  have hsz := ht.sz
  go_enter Tryd.func22, Tryd.ntmps22
  go_wp2_with fail
  refine (atoi_good _ a _ (ext_size_le s _ _ (by omega)) ht hA).mono ?_
  rintro e w1 ⟨rfl, hb1⟩
  have hb := hb.trans (hb1.mono hb.size)
  clear hb1
  have ht := ht0.below hb hsz
  go_wp2_with fail
  refine (atoi_good _ b _ (ext_size_le s _ _ (by omega)) ht hB).mono ?_
  rintro e w1 ⟨rfl, hb1⟩
  have hb := hb.trans (hb1.mono hb.size)
  clear hb1
  have ht := ht0.below hb hsz
  go_wp2_with fail
  refine (atoi_good _ c _ (ext_size_le s _ _ (by omega)) ht hC).mono ?_
  rintro e w1 ⟨rfl, hb1⟩
  have hb := hb.trans (hb1.mono hb.size)
  clear hb1
  have ht := ht0.below hb hsz
  go_wp2_with fail
  refine (day_any a b c _ (by omega)).mono ?_
  rintro e w1 ⟨rfl, hb1⟩
  rw [hV.out, hE.out]
  have hb := hb.trans (hb1.mono hb.size)
  clear hb1
  have ht := ht0.below hb hsz
  go_wp2_with fail
  refine (text_any V _ ht).mono ?_
  rintro e w1 ⟨rfl, hb1⟩
  have hb := hb.trans (hb1.mono hb.size)
  clear hb1
  go_wp2_with fail
  go_ret2
  exact ⟨rfl, hb⟩
set_option maxHeartbeats 2000000 in
theorem parse_other (s : ByteArray) (a b c : Int) (w : World) (ht : TEnv w) (hs : s.size = 10) (hc : c ≤ 9223372036854775807)
    (hA : Hid (atOk (s.extract 0 4).data.toList = true ∧ atV (s.extract 0 4).data.toList = a))
    (hB : Hid (atOk (s.extract 5 7).data.toList = true ∧ atV (s.extract 5 7).data.toList = b))
    (hC : Hid (atOk (s.extract 8 10).data.toList = true ∧ atV (s.extract 8 10).data.toList = c))
    (V : Int) (hV : Hid (Cal.dayV a b c = V)) (hE : Hid (Cal.dayE a b c = 0)) (hx : (Cal.txt V == s.toList) = false) :
    Calls Tryd.prog 22 #[.string s] w fun e w' => e = .returned (.tuple #[.int .i64 0, .int .i64 2]) ∧ Below w.heap.size w w' := by
  have hb := Below.refl w.heap.size w
  have ht0 := ht
  have hsz := ht.sz
  go_enter Tryd.func22, Tryd.ntmps22
  go_wp2_with fail
  refine (atoi_good _ a _ (ext_size_le s _ _ (by omega)) ht hA).mono ?_
  rintro e w1 ⟨rfl, hb1⟩
  have hb := hb.trans (hb1.mono hb.size)
  clear hb1
  have ht := ht0.below hb hsz
  go_wp2_with fail
  refine (atoi_good _ b _ (ext_size_le s _ _ (by omega)) ht hB).mono ?_
  rintro e w1 ⟨rfl, hb1⟩
  have hb := hb.trans (hb1.mono hb.size)
  clear hb1
  have ht := ht0.below hb hsz
  go_wp2_with fail
  refine (atoi_good _ c _ (ext_size_le s _ _ (by omega)) ht hC).mono ?_
  rintro e w1 ⟨rfl, hb1⟩
  have hb := hb.trans (hb1.mono hb.size)
  clear hb1
  have ht := ht0.below hb hsz
  go_wp2_with fail
  refine (day_any a b c _ (by omega)).mono ?_
  rintro e w1 ⟨rfl, hb1⟩
  rw [hV.out, hE.out]
  have hb := hb.trans (hb1.mono hb.size)
  clear hb1
  have ht := ht0.below hb hsz
  go_wp2_with fail
  refine (text_any V _ ht).mono ?_
  rintro e w1 ⟨rfl, hb1⟩
  have hb := hb.trans (hb1.mono hb.size)
  clear hb1
  go_wp2_with fail
  go_ret2
  exact ⟨rfl, hb⟩
set_option maxHeartbeats 2000000 in
theorem parse_none (s : ByteArray) (a b c : Int) (w : World) (ht : TEnv w) (hs : s.size = 10) (hc : c ≤ 9223372036854775807)
    (hA : Hid (atOk (s.extract 0 4).data.toList = true ∧ atV (s.extract 0 4).data.toList = a))
    (hB : Hid (atOk (s.extract 5 7).data.toList = true ∧ atV (s.extract 5 7).data.toList = b))
    (hC : Hid (atOk (s.extract 8 10).data.toList = true ∧ atV (s.extract 8 10).data.toList = c))
    (hV : Hid (Cal.dayV a b c = 0)) (hE : Hid (Cal.dayE a b c = 5)) :
    Calls Tryd.prog 22 #[.string s] w fun e w' => e = .returned (.tuple #[.int .i64 0, .int .i64 2]) ∧ Below w.heap.size w w' := by
  have hb := Below.refl w.heap.size w
  have ht0 := ht
  have hsz := ht.sz
  go_enter Tryd.func22, Tryd.ntmps22
  go_wp2_with fail
  refine (atoi_good _ a _ (ext_size_le s _ _ (by omega)) ht hA).mono ?_
  rintro e w1 ⟨rfl, hb1⟩
  have hb := hb.trans (hb1.mono hb.size)
  clear hb1
  have ht := ht0.below hb hsz
  go_wp2_with fail
  refine (atoi_good _ b _ (ext_size_le s _ _ (by omega)) ht hB).mono ?_
  rintro e w1 ⟨rfl, hb1⟩
  have hb := hb.trans (hb1.mono hb.size)
  clear hb1
  have ht := ht0.below hb hsz
  go_wp2_with fail
  refine (atoi_good _ c _ (ext_size_le s _ _ (by omega)) ht hC).mono ?_
  rintro e w1 ⟨rfl, hb1⟩
  have hb := hb.trans (hb1.mono hb.size)
  clear hb1
  have ht := ht0.below hb hsz
  go_wp2_with fail
  refine (day_any a b c _ (by omega)).mono ?_
  rintro e w1 ⟨rfl, hb1⟩
  rw [hV.out, hE.out]
  have hb := hb.trans (hb1.mono hb.size)
  clear hb1
  have ht := ht0.below hb hsz
  go_wp2_with fail
  go_ret2
  exact ⟨rfl, hb⟩
theorem beq_toList (l : List UInt8) (s : ByteArray) : (l == s.toList) = decide (l = s.data.toList) := by
  rw [ByteArray.toList_eq, Bool.eq_iff_iff]; simp
theorem atV_bd (l : List UInt8) : atV l ≤ 9223372036854775807 := by
  unfold Cal.atV
  split
  · rename_i v h; exact (Lib.atoiAll_bounds h).2
  · decide
theorem drop_take_8 (l : List UInt8) (h : l.length = 10) : (l.take 10).drop 8 = l.drop 8 := by
  rw [List.take_of_length_le (by omega)]
theorem drop_take_5 (l : List UInt8) : (l.take 7).drop 5 = (l.drop 5).take 2 := by
  rw [List.drop_take]
theorem pair_of {V E a b : Int} (h : V = a ∧ E = b) : Ending.returned (.tuple #[.int .i64 a, .int .i64 b]) = .returned (.tuple #[.int .i64 V, .int .i64 E]) := by rw [h.1, h.2]
set_option maxHeartbeats 400000 in
theorem parse_short (s : ByteArray) (w : World) (_hm : s.size ≤ 9223372036854775807) (hs : ((s.size : Int) == 10) = false) :
    Calls Tryd.prog 22 #[.string s] w fun e w' => e = .returned (.tuple #[.int .i64 0, .int .i64 2]) ∧ Below w.heap.size w w' := by
  go_enter Tryd.func22, Tryd.ntmps22
  go_wp2_with fail
  go_ret2
  exact ⟨rfl, Below.refl _ _⟩
theorem parse_any (s : ByteArray) (w : World) (ht : TEnv w) (hm : s.size ≤ 9223372036854775807) :
    Calls Tryd.prog 22 #[.string s] w fun e w' => e = .returned (.tuple #[.int .i64 (Cal.parV s.data.toList), .int .i64 (Cal.parE s.data.toList)]) ∧ Below w.heap.size w w' := by
  have hlen := size_list s
  by_cases hs : s.size = 10
  · have e1 : (s.extract 0 4).data.toList = s.data.toList.take 4 := by rw [ext_list]; rfl
    have e2 : (s.extract 5 7).data.toList = (s.data.toList.drop 5).take 2 := by rw [ext_list, drop_take_5]
    have e3 : (s.extract 8 10).data.toList = s.data.toList.drop 8 := by rw [ext_list, drop_take_8 _ (by omega)]
    by_cases hok : (atOk (s.extract 0 4).data.toList && atOk (s.extract 5 7).data.toList && atOk (s.extract 8 10).data.toList) = true
    · simp only [Bool.and_eq_true] at hok
      obtain ⟨⟨hA, hB⟩, hC⟩ := hok
      by_cases hv : Cal.valid (atV (s.extract 0 4).data.toList) (atV (s.extract 5 7).data.toList) (atV (s.extract 8 10).data.toList)
      · have hk := Cal.num_known hv
        by_cases hx : Cal.txt (Cal.num (atV (s.extract 0 4).data.toList) (atV (s.extract 5 7).data.toList) (atV (s.extract 8 10).data.toList)) = s.data.toList
        · refine (parse_yes s _ _ _ w ht hs (atV_bd _) ⟨hA, rfl⟩ ⟨hB, rfl⟩ ⟨hC, rfl⟩ _ (dayV_ok hv) (dayE_ok hv) (by rw [beq_toList]; exact decide_eq_true hx)).mono ?_
          rintro e w' ⟨rfl, hb⟩
          refine ⟨pair_of ?_, hb⟩
          rw [← hx]; exact Cal.par_ok hk
        · refine (parse_other s _ _ _ w ht hs (atV_bd _) ⟨hA, rfl⟩ ⟨hB, rfl⟩ ⟨hC, rfl⟩ _ (dayV_ok hv) (dayE_ok hv) (by rw [beq_toList]; exact decide_eq_false hx)).mono ?_
          rintro e w' ⟨rfl, hb⟩
          refine ⟨pair_of (Cal.par_no fun hi => hx ?_), hb⟩
          rw [e1, e2, e3]; exact (Cal.isTxt_num hi).2
      · refine (parse_none s _ _ _ w ht hs (atV_bd _) ⟨hA, rfl⟩ ⟨hB, rfl⟩ ⟨hC, rfl⟩ (dayV_no hv) (dayE_no hv)).mono ?_
        rintro e w' ⟨rfl, hb⟩
        refine ⟨pair_of (Cal.par_no fun hi => hv ?_), hb⟩
        rw [e1, e2, e3]; exact (Cal.isTxt_num hi).1
    · refine (parse_bad s w ht hs (by simpa using hok)).mono ?_
      rintro e w' ⟨rfl, hb⟩
      refine ⟨pair_of (Cal.par_no fun hi => hok ?_), hb⟩
      obtain ⟨h1, h2, h3, _⟩ := Cal.isTxt_at hi
      rw [e1, e2, e3, h1, h2, h3]; rfl
  · refine (parse_short s w hm (by simp; omega)).mono ?_
    rintro e w' ⟨rfl, hb⟩
    refine ⟨pair_of (Cal.par_no fun hi => hs ?_), hb⟩
    have := (Cal.isTxt_at hi).2.2.2
    omega
end Go.Proofs.YtlfgjpidamkpdaaDoor
