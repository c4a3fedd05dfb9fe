/- Number: the reference's. -/
import Derived.Test.YtdpcdocaahjeoaaDoorW26
namespace Go.Proofs.YtdpcdocaahjeoaaDoor
open Go Go.RowKit
theorem dig_cases (c : UInt8) : (Dc.isDig c = true ∧ decide ((c.toNat : Int) < 48) = false ∧ decide (57 < (c.toNat : Int)) = false ∧ (48 ≤ c.toNat ∧ c.toNat ≤ 57)) ∨ (Dc.isDig c = false ∧ decide ((c.toNat : Int) < 48) = true) ∨ (Dc.isDig c = false ∧ decide ((c.toNat : Int) < 48) = false ∧ decide (57 < (c.toNat : Int)) = true) := by
  unfold Dc.isDig
  simp only [Bool.and_eq_true, Bool.and_eq_false_iff, decide_eq_true_eq, decide_eq_false_iff_not]
  omega
set_option maxRecDepth 100000 in
set_option maxHeartbeats 4000000 in
theorem rNumber_any (s : ByteArray) (w : World) (hs : s.size ≤ 1000000) : Calls Tryd.prog 63 #[.string s] w (NumP s.data.toList w) := by
  obtain ⟨l, hl⟩ : ∃ l, s.data.toList = l := ⟨_, rfl⟩
  rw [hl]
  have hls : l.length = s.size := by rw [← hl, Vm.strLn]
  by_cases hneg : Vm.neg l = true
  · have h1 : 0 < s.size := by
      rcases Nat.eq_zero_or_pos s.size with h | h
      · rw [List.eq_nil_of_length_eq_zero (show l.length = 0 by omega)] at hneg; cases hneg
      · exact h
    have hc : (s[0]'h1).toNat = 45 := by
      have h2 : 0 < s.data.toList.length := by rw [Vm.strLn]; exact h1
      have h3 := Vm.str_get s 0 h1 h2
      unfold Vm.neg at hneg
      rw [← hl] at hneg
      rw [List.head?_eq_getElem?, List.getElem?_eq_getElem h2, h3] at hneg
      simp at hneg
      rw [hneg]; rfl
    have hdl : (s.extract 1 s.size).data.toList = Vm.digs l := by
      rw [Lib.extract_to_end, hl]; unfold Vm.digs; rw [if_pos hneg]; simp
    obtain ⟨d, hd⟩ : ∃ d, s.extract 1 s.size = d := ⟨_, rfl⟩
    rw [hd] at hdl
    have t1 : (((s[0]'h1).toNat : Int) == 45) = true := by rw [hc]; rfl
    have t2 : decide (0 < s.size) = true := decide_eq_true h1
    have t3 : decide ((0 : Int) < (s.size : Int)) = true := decide_eq_true (by omega)
    obtain ⟨m, hm⟩ : ∃ m, d.size = m := ⟨_, rfl⟩
    have hmd : d.size = m := hm
    have hm6 : m ≤ 1000000 := by
      have : d.data.toList.length ≤ l.length := by rw [hdl]; unfold Vm.digs; split <;> simp
      rw [Vm.strLn] at this; omega
    have HOK := Lib.hid (show Vm.numOk l = (decide (1 ≤ d.size) && decide (d.size ≤ 7) && d.data.toList.all Dc.isDig) by unfold Vm.numOk; rw [← hdl, Vm.strLn])
    have HNEG := Lib.hid hneg
    have HDL := Lib.hid hdl.symm
    have hsl : s.size - 1 = d.size := by rw [← hd, ByteArray.size_extract]; omega
    have HD := Lib.hid hd
    clear hneg hc hdl hl hls hm
    go_enter Tryd.func63, Tryd.ntmps63
    go_wp2_with fail
    go_loopg [5, 6] m (fun r v i wr => ∃ k : Nat, k + r = m ∧ i = .int .i64 k ∧ v = .int .i64 (Dc.decV (d.data.toList.take k) : Nat) ∧ k ≤ 7 ∧ (d.data.toList.take k).all Dc.isDig = true ∧ wr = w)
    case atStart => exact ⟨0, by omega, rfl, rfl, by omega, rfl, rfl⟩
    case round =>
      obtain ⟨k, hk, rfl, rfl, hk7, hall, rfl⟩ := hrel
      obtain ⟨w, rfl⟩ : ∃ w0 : World, w0 = wr := ⟨_, rfl⟩
      have hlt := Dc.decV_lt _ hall
      have hl7 : 10 ^ (d.data.toList.take k).length ≤ 10 ^ 7 := Nat.pow_le_pow_right (by omega) (by rw [List.length_take]; omega)
      rw [show (10 : Nat) ^ 7 = 10000000 from rfl] at hl7
      obtain ⟨q, hq⟩ : ∃ q, Dc.decV (d.data.toList.take k) = q := ⟨_, rfl⟩
      rw [hq] at hlt ⊢
      have hq7 : q < 10000000 := by omega
      have HQ := Lib.hid hq
      have HALL := Lib.hid hall
      clear hlt hl7 hq hall
      by_cases hlt : k < m
      · have hkd : k < d.size := by omega
        have k0 : (0 : Int) ≤ (k : Int) := Int.natCast_nonneg _
        have k1 : (k : Int) < (m : Int) := by omega
        have hget : k < d.data.toList.length := by rw [Vm.strLn]; exact hkd
        have HSN := Lib.hid (take_snoc' d.data.toList k hget)
        have hsn2 : d.data.toList[k] = d[k] := Vm.str_get d k hkd hget
        rcases dig_cases (d[k]'hkd) with ⟨hd, q1, q2, q3⟩ | ⟨hd, q1⟩ | ⟨hd, q1, q2⟩
        · by_cases h6 : 6 < k
          · have q4 : decide (6 < (k : Int)) = true := decide_eq_true (by omega)
            have q5 : decide (6 < k) = true := decide_eq_true h6
            have HV := Lib.hid (show Vm.numOk l = false by rw [HOK.out, show decide (d.size ≤ 7) = false from decide_eq_false (by omega)]; simp)
            clear hd hsn2
            go_wp2_with fail
            go_ret2
            exact ⟨by unfold numR; rw [HV.out]; rfl, Below.refl _ _⟩
          · have q4 : decide (6 < (k : Int)) = false := decide_eq_false (by omega)
            have q5 : decide (6 < k) = false := decide_eq_false h6
            have HN := Lib.hid (show Dc.decV (d.data.toList.take (k + 1)) = 10 * q + ((d[k]'hkd).toNat - 48) by rw [HSN.out, Dc.decV_snoc, HQ.out, hsn2])
            have HA2 := Lib.hid (show (d.data.toList.take (k + 1)).all Dc.isDig = true by rw [HSN.out, List.all_append, HALL.out, hsn2]; simp [hd])
            obtain ⟨x, hx⟩ : ∃ x, (d[k]'hkd).toNat = x := ⟨_, rfl⟩
            rw [hx] at q1 q2 q3 HN
            have hx48 : 48 ≤ x ∧ x ≤ 57 := q3
            have w1 : IntKind.u8.wrap ((x : Int) - 48) = (x : Int) - 48 := by simp only [IntKind.wrap, IntKind.signed, IntKind.bits]; simp; omega
            clear hd hsn2 q3
            go_wp2_with fail
            go_roundg (gk - 1)
            case measure => omega
            case rel => exact ⟨k + 1, by omega, by go_num, by rw [HN.out]; congr 1; omega, by omega, HA2.out, rfl⟩
        · have HV := Lib.hid (show Vm.numOk l = false by
            rw [HOK.out]
            have : d.data.toList.all Dc.isDig = false := by
              cases hb : d.data.toList.all Dc.isDig with
              | false => rfl
              | true => have h := List.all_eq_true.1 hb _ (List.getElem_mem hget); rw [hsn2, hd] at h; cases h
            rw [this]; simp)
          clear hd hsn2
          go_wp2_with fail
          go_ret2
          exact ⟨by unfold numR; rw [HV.out]; rfl, Below.refl _ _⟩
        · have HV := Lib.hid (show Vm.numOk l = false by
            rw [HOK.out]
            have : d.data.toList.all Dc.isDig = false := by
              cases hb : d.data.toList.all Dc.isDig with
              | false => rfl
              | true => have h := List.all_eq_true.1 hb _ (List.getElem_mem hget); rw [hsn2, hd] at h; cases h
            rw [this]; simp)
          clear hd hsn2
          go_wp2_with fail
          go_ret2
          exact ⟨by unfold numR; rw [HV.out]; rfl, Below.refl _ _⟩
      · have hkm : k = m := by omega
        subst hkm
        have hfull : d.data.toList.take k = d.data.toList := List.take_of_length_le (by rw [Vm.strLn]; omega)
        rw [hfull] at HALL HQ
        have HV := Lib.hid (show Vm.numOk l = decide (0 < k) by rw [HOK.out, HALL.out, show decide (d.size ≤ 7) = true from decide_eq_true (by omega)]; rw [Bool.eq_iff_iff]; simp; omega)
        have HR := Lib.hid (show numR l = -(q : Int) by
          unfold numR
          rw [HV.out]
          by_cases h0 : 0 < k
          · rw [decide_eq_true h0, if_pos rfl]; unfold Vm.numV; rw [HNEG.out, HDL.out, HQ.out]; rfl
          · rw [decide_eq_false h0]
            have : d.data.toList = [] := List.eq_nil_of_length_eq_zero (by rw [Vm.strLn]; omega)
            have hq0 : q = 0 := by rw [← HQ.out, this]; rfl
            rw [hq0]; rfl)
        clear hfull
        obtain ⟨bb, hbb⟩ : ∃ b, decide (0 < k) = b := ⟨_, rfl⟩
        have q6 : decide ((0 : Int) < (k : Int)) = bb := by rw [← hbb, Bool.eq_iff_iff]; simp
        rw [hbb] at HV
        go_wp2_with fail
        go_ret2
        exact ⟨by rw [HV.out, HR.out]; first | rfl | (simp; done) | (simp; exact hbb.symm.trans t4), Below.refl _ _⟩
  · have hneg : Vm.neg l = false := by simpa using hneg
    have hdg : Vm.digs l = l := by unfold Vm.digs; rw [hneg]; rfl
    obtain ⟨d, rfl⟩ : ∃ d, d = s := ⟨_, rfl⟩
    obtain ⟨m, hm⟩ : ∃ m, d.size = m := ⟨_, rfl⟩
    have hmd : d.size = m := hm
    have hm6 : m ≤ 1000000 := by omega
    have hdl : d.data.toList = Vm.digs l := by rw [hdg, hl]
    have HOK := Lib.hid (show Vm.numOk l = (decide (1 ≤ d.size) && decide (d.size ≤ 7) && d.data.toList.all Dc.isDig) by unfold Vm.numOk; rw [← hdl, Vm.strLn])
    have HNEG := Lib.hid hneg
    have HDL := Lib.hid hdl.symm
    by_cases h1 : 0 < d.size
    · have hc : ¬ (d[0]'h1).toNat = 45 := by
        intro hc
        have h2 : 0 < d.data.toList.length := by rw [Vm.strLn]; exact h1
        have h3 := Vm.str_get d 0 h1 h2
        unfold Vm.neg at hneg
        rw [← hl, List.head?_eq_getElem?, List.getElem?_eq_getElem h2, h3] at hneg
        rw [show d[0] = 45 from UInt8.toNat_inj.1 hc] at hneg
        cases hneg
      have t1 : (((d[0]'h1).toNat : Int) == 45) = false := by rw [beq_eq_false_iff_ne]; omega
      have t2 : decide (0 < d.size) = true := decide_eq_true h1
      have t3 : decide ((0 : Int) < (d.size : Int)) = true := decide_eq_true (by omega)
      have t4 : decide (0 < m) = true := decide_eq_true (by omega)
      have t5 : decide ((0 : Int) < (m : Int)) = true := decide_eq_true (by omega)
      clear hneg hc hdl hl hls hm hdg
      go_enter Tryd.func63, Tryd.ntmps63
      go_wp2_with fail
      go_loopg [5, 6] m (fun r v i wr => ∃ k : Nat, k + r = m ∧ i = .int .i64 k ∧ v = .int .i64 (Dc.decV (d.data.toList.take k) : Nat) ∧ k ≤ 7 ∧ (d.data.toList.take k).all Dc.isDig = true ∧ wr = w)
      case atStart => exact ⟨0, by omega, rfl, rfl, by omega, rfl, rfl⟩
      case round =>
        obtain ⟨k, hk, rfl, rfl, hk7, hall, rfl⟩ := hrel
        obtain ⟨w, rfl⟩ : ∃ w0 : World, w0 = wr := ⟨_, rfl⟩
        have hlt := Dc.decV_lt _ hall
        have hl7 : 10 ^ (d.data.toList.take k).length ≤ 10 ^ 7 := Nat.pow_le_pow_right (by omega) (by rw [List.length_take]; omega)
        rw [show (10 : Nat) ^ 7 = 10000000 from rfl] at hl7
        obtain ⟨q, hq⟩ : ∃ q, Dc.decV (d.data.toList.take k) = q := ⟨_, rfl⟩
        rw [hq] at hlt ⊢
        have hq7 : q < 10000000 := by omega
        have HQ := Lib.hid hq
        have HALL := Lib.hid hall
        clear hlt hl7 hq hall
        by_cases hlt : k < m
        · have hkd : k < d.size := by omega
          have k0 : (0 : Int) ≤ (k : Int) := Int.natCast_nonneg _
          have k1 : (k : Int) < (m : Int) := by omega
          have hget : k < d.data.toList.length := by rw [Vm.strLn]; exact hkd
          have HSN := Lib.hid (take_snoc' d.data.toList k hget)
          have hsn2 : d.data.toList[k] = d[k] := Vm.str_get d k hkd hget
          rcases dig_cases (d[k]'hkd) with ⟨hd, q1, q2, q3⟩ | ⟨hd, q1⟩ | ⟨hd, q1, q2⟩
          · by_cases h6 : 6 < k
            · have q4 : decide (6 < (k : Int)) = true := decide_eq_true (by omega)
              have q5 : decide (6 < k) = true := decide_eq_true h6
              have HV := Lib.hid (show Vm.numOk l = false by rw [HOK.out, show decide (d.size ≤ 7) = false from decide_eq_false (by omega)]; simp)
              clear hd hsn2
              go_wp2_with fail
              go_ret2
              exact ⟨by unfold numR; rw [HV.out]; rfl, Below.refl _ _⟩
            · have q4 : decide (6 < (k : Int)) = false := decide_eq_false (by omega)
              have q5 : decide (6 < k) = false := decide_eq_false h6
              have HN := Lib.hid (show Dc.decV (d.data.toList.take (k + 1)) = 10 * q + ((d[k]'hkd).toNat - 48) by rw [HSN.out, Dc.decV_snoc, HQ.out, hsn2])
              have HA2 := Lib.hid (show (d.data.toList.take (k + 1)).all Dc.isDig = true by rw [HSN.out, List.all_append, HALL.out, hsn2]; simp [hd])
              obtain ⟨x, hx⟩ : ∃ x, (d[k]'hkd).toNat = x := ⟨_, rfl⟩
              rw [hx] at q1 q2 q3 HN
              have hx48 : 48 ≤ x ∧ x ≤ 57 := q3
              have w1 : IntKind.u8.wrap ((x : Int) - 48) = (x : Int) - 48 := by simp only [IntKind.wrap, IntKind.signed, IntKind.bits]; simp; omega
              clear hd hsn2 q3
              go_wp2_with fail
              go_roundg (gk - 1)
              case measure => omega
              case rel => exact ⟨k + 1, by omega, by go_num, by rw [HN.out]; congr 1; omega, by omega, HA2.out, rfl⟩
          · have HV := Lib.hid (show Vm.numOk l = false by
              rw [HOK.out]
              have : d.data.toList.all Dc.isDig = false := by
                cases hb : d.data.toList.all Dc.isDig with
                | false => rfl
                | true => have h := List.all_eq_true.1 hb _ (List.getElem_mem hget); rw [hsn2, hd] at h; cases h
              rw [this]; simp)
            clear hd hsn2
            go_wp2_with fail
            go_ret2
            exact ⟨by unfold numR; rw [HV.out]; rfl, Below.refl _ _⟩
          · have HV := Lib.hid (show Vm.numOk l = false by
              rw [HOK.out]
              have : d.data.toList.all Dc.isDig = false := by
                cases hb : d.data.toList.all Dc.isDig with
                | false => rfl
                | true => have h := List.all_eq_true.1 hb _ (List.getElem_mem hget); rw [hsn2, hd] at h; cases h
              rw [this]; simp)
            clear hd hsn2
            go_wp2_with fail
            go_ret2
            exact ⟨by unfold numR; rw [HV.out]; rfl, Below.refl _ _⟩
        · have hkm : k = m := by omega
          subst hkm
          have hfull : d.data.toList.take k = d.data.toList := List.take_of_length_le (by rw [Vm.strLn]; omega)
          rw [hfull] at HALL HQ
          have HV := Lib.hid (show Vm.numOk l = decide (0 < k) by rw [HOK.out, HALL.out, show decide (d.size ≤ 7) = true from decide_eq_true (by omega)]; rw [Bool.eq_iff_iff]; simp; omega)
          have HR := Lib.hid (show numR l = (q : Int) by
            unfold numR
            rw [HV.out]
            by_cases h0 : 0 < k
            · rw [decide_eq_true h0, if_pos rfl]; unfold Vm.numV; rw [HNEG.out, HDL.out, HQ.out]; rfl
            · rw [decide_eq_false h0]
              have : d.data.toList = [] := List.eq_nil_of_length_eq_zero (by rw [Vm.strLn]; omega)
              have hq0 : q = 0 := by rw [← HQ.out, this]; rfl
              rw [hq0]; rfl)
          clear hfull
          obtain ⟨bb, hbb⟩ : ∃ b, decide (0 < k) = b := ⟨_, rfl⟩
          have q6 : decide ((0 : Int) < (k : Int)) = bb := by rw [← hbb, Bool.eq_iff_iff]; simp
          rw [hbb] at HV
          go_wp2_with fail
          go_ret2
          exact ⟨by rw [HV.out, HR.out]; first | rfl | (simp; done) | (simp; exact hbb.symm.trans t4), Below.refl _ _⟩
    · have t2 : decide (0 < d.size) = false := decide_eq_false h1
      have t3 : decide ((0 : Int) < (d.size : Int)) = false := decide_eq_false (by omega)
      have t4 : decide (0 < m) = false := decide_eq_false (by omega)
      have t5 : decide ((0 : Int) < (m : Int)) = false := decide_eq_false (by omega)
      clear hneg hdl hl hls hm hdg
      go_enter Tryd.func63, Tryd.ntmps63
      go_wp2_with fail
      go_loopg [5, 6] m (fun r v i wr => ∃ k : Nat, k + r = m ∧ i = .int .i64 k ∧ v = .int .i64 (Dc.decV (d.data.toList.take k) : Nat) ∧ k ≤ 7 ∧ (d.data.toList.take k).all Dc.isDig = true ∧ wr = w)
      case atStart => exact ⟨0, by omega, rfl, rfl, by omega, rfl, rfl⟩
      case round =>
        obtain ⟨k, hk, rfl, rfl, hk7, hall, rfl⟩ := hrel
        obtain ⟨w, rfl⟩ : ∃ w0 : World, w0 = wr := ⟨_, rfl⟩
        have hlt := Dc.decV_lt _ hall
        have hl7 : 10 ^ (d.data.toList.take k).length ≤ 10 ^ 7 := Nat.pow_le_pow_right (by omega) (by rw [List.length_take]; omega)
        rw [show (10 : Nat) ^ 7 = 10000000 from rfl] at hl7
        obtain ⟨q, hq⟩ : ∃ q, Dc.decV (d.data.toList.take k) = q := ⟨_, rfl⟩
        rw [hq] at hlt ⊢
        have hq7 : q < 10000000 := by omega
        have HQ := Lib.hid hq
        have HALL := Lib.hid hall
        clear hlt hl7 hq hall
        by_cases hlt : k < m
        · have hkd : k < d.size := by omega
          have k0 : (0 : Int) ≤ (k : Int) := Int.natCast_nonneg _
          have k1 : (k : Int) < (m : Int) := by omega
          have hget : k < d.data.toList.length := by rw [Vm.strLn]; exact hkd
          have HSN := Lib.hid (take_snoc' d.data.toList k hget)
          have hsn2 : d.data.toList[k] = d[k] := Vm.str_get d k hkd hget
          rcases dig_cases (d[k]'hkd) with ⟨hd, q1, q2, q3⟩ | ⟨hd, q1⟩ | ⟨hd, q1, q2⟩
          · by_cases h6 : 6 < k
            · have q4 : decide (6 < (k : Int)) = true := decide_eq_true (by omega)
              have q5 : decide (6 < k) = true := decide_eq_true h6
              have HV := Lib.hid (show Vm.numOk l = false by rw [HOK.out, show decide (d.size ≤ 7) = false from decide_eq_false (by omega)]; simp)
              clear hd hsn2
              go_wp2_with fail
              go_ret2
              exact ⟨by unfold numR; rw [HV.out]; rfl, Below.refl _ _⟩
            · have q4 : decide (6 < (k : Int)) = false := decide_eq_false (by omega)
              have q5 : decide (6 < k) = false := decide_eq_false h6
              have HN := Lib.hid (show Dc.decV (d.data.toList.take (k + 1)) = 10 * q + ((d[k]'hkd).toNat - 48) by rw [HSN.out, Dc.decV_snoc, HQ.out, hsn2])
              have HA2 := Lib.hid (show (d.data.toList.take (k + 1)).all Dc.isDig = true by rw [HSN.out, List.all_append, HALL.out, hsn2]; simp [hd])
              obtain ⟨x, hx⟩ : ∃ x, (d[k]'hkd).toNat = x := ⟨_, rfl⟩
              rw [hx] at q1 q2 q3 HN
              have hx48 : 48 ≤ x ∧ x ≤ 57 := q3
              have w1 : IntKind.u8.wrap ((x : Int) - 48) = (x : Int) - 48 := by simp only [IntKind.wrap, IntKind.signed, IntKind.bits]; simp; omega
              clear hd hsn2 q3
              go_wp2_with fail
              go_roundg (gk - 1)
              case measure => omega
              case rel => exact ⟨k + 1, by omega, by go_num, by rw [HN.out]; congr 1; omega, by omega, HA2.out, rfl⟩
          · have HV := Lib.hid (show Vm.numOk l = false by
              rw [HOK.out]
              have : d.data.toList.all Dc.isDig = false := by
                cases hb : d.data.toList.all Dc.isDig with
                | false => rfl
                | true => have h := List.all_eq_true.1 hb _ (List.getElem_mem hget); rw [hsn2, hd] at h; cases h
              rw [this]; simp)
            clear hd hsn2
            go_wp2_with fail
            go_ret2
            exact ⟨by unfold numR; rw [HV.out]; rfl, Below.refl _ _⟩
          · have HV := Lib.hid (show Vm.numOk l = false by
              rw [HOK.out]
              have : d.data.toList.all Dc.isDig = false := by
                cases hb : d.data.toList.all Dc.isDig with
                | false => rfl
                | true => have h := List.all_eq_true.1 hb _ (List.getElem_mem hget); rw [hsn2, hd] at h; cases h
              rw [this]; simp)
            clear hd hsn2
            go_wp2_with fail
            go_ret2
            exact ⟨by unfold numR; rw [HV.out]; rfl, Below.refl _ _⟩
        · have hkm : k = m := by omega
          subst hkm
          have hfull : d.data.toList.take k = d.data.toList := List.take_of_length_le (by rw [Vm.strLn]; omega)
          rw [hfull] at HALL HQ
          have HV := Lib.hid (show Vm.numOk l = decide (0 < k) by rw [HOK.out, HALL.out, show decide (d.size ≤ 7) = true from decide_eq_true (by omega)]; rw [Bool.eq_iff_iff]; simp; omega)
          have HR := Lib.hid (show numR l = (q : Int) by
            unfold numR
            rw [HV.out]
            by_cases h0 : 0 < k
            · rw [decide_eq_true h0, if_pos rfl]; unfold Vm.numV; rw [HNEG.out, HDL.out, HQ.out]; rfl
            · rw [decide_eq_false h0]
              have : d.data.toList = [] := List.eq_nil_of_length_eq_zero (by rw [Vm.strLn]; omega)
              have hq0 : q = 0 := by rw [← HQ.out, this]; rfl
              rw [hq0]; rfl)
          clear hfull
          obtain ⟨bb, hbb⟩ : ∃ b, decide (0 < k) = b := ⟨_, rfl⟩
          have q6 : decide ((0 : Int) < (k : Int)) = bb := by rw [← hbb, Bool.eq_iff_iff]; simp
          rw [hbb] at HV
          go_wp2_with fail
          go_ret2
          exact ⟨by rw [HV.out, HR.out]; first | rfl | (simp; done) | (simp; exact hbb.symm.trans t4), Below.refl _ _⟩
end Go.Proofs.YtdpcdocaahjeoaaDoor
