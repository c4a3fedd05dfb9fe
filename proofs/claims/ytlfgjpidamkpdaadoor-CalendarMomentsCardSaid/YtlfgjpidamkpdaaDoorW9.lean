/- The reference's Parse. -/
import Derived.Test.YtlfgjpidamkpdaaDoorW8
namespace Go.Proofs.YtlfgjpidamkpdaaDoor
open Go.RowKit
open Cal (isDig decV numV)
theorem ext_size_10 (s : ByteArray) (a b : Nat) (h : s.size = 10) (hb : b ≤ 10) : (s.extract a b).size ≤ 10 := by
  rw [ByteArray.size_extract]; omega
set_option maxHeartbeats 1000000 in
theorem rParse_core (s : ByteArray) (w : World) (hs : s.size = 10) (h4 : ((s[4].toNat : Int) != 45) = false) (h7 : ((s[7].toNat : Int) != 45) = false)
    (V E : Int) (hV : Hid (Cal.dayV (numV (s.data.toList.take 4)) (numV ((s.data.toList.drop 5).take 2)) (numV ((s.data.toList.drop 8).take 2)) = V))
    (hE : Hid (Cal.dayE (numV (s.data.toList.take 4)) (numV ((s.data.toList.drop 5).take 2)) (numV ((s.data.toList.drop 8).take 2)) = E)) (hb : E = 0 ∨ E = 5) :
    Calls Tryd.prog 23 #[.string s] w fun e w' => e = .returned (.tuple #[.int .i64 (bif E == 0 then V else 0), .int .i64 (bif E == 0 then 0 else 2)]) ∧ Below w.heap.size w w' := by
  rcases hb with hb | hb <;> subst hb
  all_goals
    go_enter Tryd.func23, Tryd.ntmps23
    go_wp2_with fail
    go_quiet ((first
      | (go_at_call 47; exact Calls.quiet_of_same' (number_any _ _ (ext_size_10 s _ _ hs (by omega))))
      | (go_at_call 19; exact Calls.quiet_of_same' (rDay_any _ _ _ _))))
    rw [hV.out, hE.out]
    go_wp2_with fail
    go_ret2
    exact ⟨rfl, ⟨rfl, rfl, rfl, Nat.le_refl _, fun _ _ => rfl⟩⟩
set_option maxHeartbeats 1000000 in
theorem rParse_short (s : ByteArray) (w : World) (hs : ((s.size : Int) == 10) = false) :
    Calls Tryd.prog 23 #[.string s] w fun e w' => e = .returned (.tuple #[.int .i64 0, .int .i64 2]) ∧ Below w.heap.size w w' := by
  go_enter Tryd.func23, Tryd.ntmps23
  go_wp2_with fail
  go_ret2
  exact ⟨rfl, Below.refl _ _⟩
set_option maxHeartbeats 1000000 in
theorem rParse_d4 (s : ByteArray) (w : World) (hs : s.size = 10) (h4 : ((s[4].toNat : Int) != 45) = true) :
    Calls Tryd.prog 23 #[.string s] w fun e w' => e = .returned (.tuple #[.int .i64 0, .int .i64 2]) ∧ Below w.heap.size w w' := by
  go_enter Tryd.func23, Tryd.ntmps23
  go_wp2_with fail
  go_ret2
  exact ⟨rfl, Below.refl _ _⟩
set_option maxHeartbeats 1000000 in
theorem rParse_d7 (s : ByteArray) (w : World) (hs : s.size = 10) (h4 : ((s[4].toNat : Int) != 45) = false) (h7 : ((s[7].toNat : Int) != 45) = true) :
    Calls Tryd.prog 23 #[.string s] w fun e w' => e = .returned (.tuple #[.int .i64 0, .int .i64 2]) ∧ Below w.heap.size w w' := by
  go_enter Tryd.func23, Tryd.ntmps23
  go_wp2_with fail
  go_ret2
  exact ⟨rfl, Below.refl _ _⟩
theorem at_list (s : ByteArray) (i : Nat) (h : i < s.size) : s.data.toList[i]? = some s[i] := by
  rw [Array.getElem?_toList, Array.getElem?_eq_getElem h]; rfl
theorem dash_no (s : ByteArray) (i : Nat) (h : i < s.size) (hd : ¬ ((s[i].toNat : Int) != 45) = true) : s.data.toList[i]? = some 45 := by
  rw [at_list s i h]
  have : s[i].toNat = 45 := by have hq : (s[i].toNat : Int) = 45 := by simpa using hd
                               omega
  congr 1
  exact UInt8.toNat_inj.1 this
theorem dash_yes (s : ByteArray) (i : Nat) (h : i < s.size) (hd : ((s[i].toNat : Int) != 45) = true) : ¬ s.data.toList[i]? = some 45 := by
  rw [at_list s i h]
  intro e
  have : s[i] = 45 := Option.some.inj e
  rw [this] at hd
  revert hd; decide
theorem rParse_any (s : ByteArray) (w : World) :
    Calls Tryd.prog 23 #[.string s] w fun e w' => e = .returned (.tuple #[.int .i64 (Cal.parV s.data.toList), .int .i64 (Cal.parE s.data.toList)]) ∧ Below w.heap.size w w' := by
  have hlen := size_list s
  by_cases hs : s.size = 10
  · by_cases h4 : ((s[4].toNat : Int) != 45) = true
    · refine (rParse_d4 s w hs h4).mono ?_
      rintro e w' ⟨rfl, hb⟩
      exact ⟨pair_of (Cal.par_no fun hi => dash_yes s 4 (by omega) h4 (Cal.isTxt_back hi).2.1), hb⟩
    by_cases h7 : ((s[7].toNat : Int) != 45) = true
    · refine (rParse_d7 s w hs (by simpa using h4) h7).mono ?_
      rintro e w' ⟨rfl, hb⟩
      exact ⟨pair_of (Cal.par_no fun hi => dash_yes s 7 (by omega) h7 (Cal.isTxt_back hi).2.2.1), hb⟩
    have k8 : (s.data.toList.drop 8).take 2 = s.data.toList.drop 8 := List.take_of_length_le (by rw [List.length_drop]; omega)
    by_cases hv : Cal.valid (numV (s.data.toList.take 4)) (numV ((s.data.toList.drop 5).take 2)) (numV ((s.data.toList.drop 8).take 2))
    · refine (rParse_core s w hs (by simpa using h4) (by simpa using h7) _ 0 rfl (dayE_ok hv) (.inl rfl)).mono ?_
      rintro e w' ⟨rfl, hb⟩
      refine ⟨pair_of ?_, hb⟩
      have hx := Cal.isTxt_ref (by omega) (dash_no s 4 (by omega) h4) (dash_no s 7 (by omega) h7) (by rw [k8] at hv; exact hv)
      have hp := Cal.par_ok (Cal.num_known hv)
      rw [dayV_ok hv]
      rw [k8] at hp ⊢
      rw [hx] at hp
      exact hp
    · refine (rParse_core s w hs (by simpa using h4) (by simpa using h7) _ 5 rfl (dayE_no hv) (.inr rfl)).mono ?_
      rintro e w' ⟨rfl, hb⟩
      exact ⟨pair_of (Cal.par_no fun hi => hv (by rw [k8]; exact (Cal.isTxt_back hi).2.2.2)), hb⟩
  · refine (rParse_short s w (by simp; omega)).mono ?_
    rintro e w' ⟨rfl, hb⟩
    exact ⟨pair_of (Cal.par_no fun hi => hs (by have := (Cal.isTxt_back hi).1; omega)), hb⟩
end Go.Proofs.YtlfgjpidamkpdaaDoor
