/- VmReads: the law's walk. -/
import Derived.Test.YtdpcdocaahjeoaaDoorVmL2
import Derived.Test.YtdpcdocaahjeoaaDoorW49
import Derived.Test.YtdpcdocaahjeoaaDoorW48
import Derived.WalkLawsBesides
namespace Go.Proofs.YtdpcdocaahjeoaaDoor
open Go Go.RowKit
theorem infoStr' : (Tryd.prog.info? 9).map (fun i => (i.zero, i.size, i.bytes)) = some (some (.string ⟨#[]⟩), 1, 16) := by kernel_rfl
theorem print_len' {s : Vm.Shape} {p : List Vm.Ins} (h : Vm.Fine s 20 p) : (Vm.print p).length ≤ 820 := by
  unfold Vm.print
  rw [if_pos (h.vld (by decide))]
  have := Vm.source_len h.ok (by have := h.len; omega)
  have := h.len
  omega
theorem short_le (m : Nat) (s : ByteArray) : (shortB m s).size ≤ m := by
  unfold shortB
  split
  · rw [ByteArray.size_extract]; omega
  · omega
theorem flat_strs {G : List Nat} {w : World} : ∀ {l : List ByteArray}, (∀ t ∈ l, t.size ≤ 1000000) → Flat G w l (l.map Value.string)
  | [], _ => rfl
  | t :: l, h => ⟨[.string t], l.map Value.string, rfl, ⟨rfl, by have := h t (.head _); omega⟩, flat_strs fun s hs => h s (.tail _ hs)⟩
theorem vld_len {p : List Vm.Ins} (h : Vm.vld p = 0) : p.length ≤ 128 := by
  unfold Vm.vld at h
  by_cases hl : 128 < p.length
  · rw [if_pos hl] at h; cases h
  · omega
theorem fin_len (acc : List Vm.Ins) : (Vm.fin acc).1.length ≤ 128 := by
  unfold Vm.fin
  split
  · rename_i h; exact vld_len h
  · simp
theorem loop_len (s : List UInt8) : ∀ (fuel at_ : Nat) (w : List UInt8) (acc : List Vm.Ins), (Vm.loopP s fuel at_ w acc).1.length ≤ 128
  | 0, _, _, _ => by simp [Vm.loopP]
  | fuel + 1, at_, w, acc => by
    unfold Vm.loopP
    split
    · split
      · simp
      · exact fin_len acc
    · split
      · simp
      · split
        · simp
        · exact loop_len s fuel _ _ _
theorem parse_len (s : List UInt8) : (Vm.parse s).1.length ≤ 128 := by
  unfold Vm.parse
  split
  · simp
  · exact loop_len s _ _ _ _
theorem tdiv6_in {n : Int} (h : inI n) : inI (n.tdiv 6) := tdiv_in n 6 h.1 h.2 (by omega)
set_option maxRecDepth 100000 in
set_option maxHeartbeats 16000000 in
theorem law_reads (l m : List Int) (A B : Option Addr) (c d : Nat) (at_ how by_ : Int) (raw : ByteArray) (w : World) (ht : TEnv w) (hl : SlAt [] w A l) (hm : SlAt [] w B m) (hc : l.length ≤ c) (hc2 : c ≤ 9223372036854775807) (hd : m.length ≤ d) (hd2 : d ≤ 9223372036854775807) (h1 : inI at_) (h2 : inI how) (h3 : inI by_) (h4 : raw.size ≤ 9223372036854775807) :
    Calls Tryd.prog 7 #[.slice A l.length c, .slice B m.length d, .int .i64 at_, .int .i64 how, .int .i64 by_, .string raw] w fun e w' => e = .returned (.bool true) ∧ Below w.heap.size w w' := by
  have CS := Lib.hid (fun W (h : SlAt [] W A l) => schemaU_any l A c W h hc hc2)
  have CP := Lib.hid (fun (x : Sch) (v : Value) W (hx : SchV x W v) (hk : Sg.Schema x) (h : SlAt [] W B m) => program_any x v m B d W hx h (by omega) hk.bd'.1 (by have := hk.bd'.2.1; omega) hk.bd'.2.2)
  have CB := Lib.hid (fun (p : List Vm.Ins) (A : Option Addr) (c : Nat) W (h : SlAt [] W A p) (hp : p.length ≤ 1000) => bent_any p A c at_ how by_ W h hp h1 h2 h3)
  have CO := Lib.hid (fun (p : List Vm.Ins) A c W (h : SlAt [] W A p) (hp : p.length ≤ 1000) => own_any p A c W h (by omega))
  have CPL := Lib.hid (fun (p : List Vm.Ins) A c W (h : SlAt [] W A p) (hp : p.length ≤ 1000000) => plain_any p A c W h hp)
  have CPR := Lib.hid (fun (p : List Vm.Ins) A c W (h : SlAt [] W A p) (hp : p.length ≤ 1000) (hE : TEnv W) => print_any p A c W h (by omega) hE)
  have CRP := Lib.hid (fun (p : List Vm.Ins) A c W (h : SlAt [] W A p) (hp : p.length ≤ 1000) => rPrint_any p A c W h (by omega))
  have CL := Lib.hid lives_any
  have CSP := Lib.hid (fun (s : ByteArray) W (hs : s.size ≤ 820) (h : SlAt [] W B m) => spaced_any s m B d W (by omega) h (by omega))
  have CCH := Lib.hid (fun (s : ByteArray) W (hs : s.size ≤ 820) => changed_any s at_ how by_ W (by omega) h1 h2 h3)
  have e6 : wrap64 (how.tdiv 6) = how.tdiv 6 := by have := tdiv6_in h2; unfold inI at this; unfold wrap64; omega
  have h6 := tdiv6_in h2
  obtain ⟨hq, hhq⟩ : ∃ z, how.tdiv 6 = z := ⟨_, rfl⟩
  rw [hhq] at h6
  have CCH2 := Lib.hid (fun (s : ByteArray) W (hs : s.size ≤ 1700) => changed_any s by_ hq at_ W (by omega) h3 h6 h1)
  have e8 : wrap64 (how.tdiv 6) = hq := e6.trans hhq
  have CSH := Lib.hid (fun W => (show Calls Tryd.prog 25 #[.string raw, .int .i64 60] W _ from short_any 60 (by omega) raw W h4))
  have hfew := short_le 60 raw
  obtain ⟨few, hfe⟩ : ∃ z, shortB 60 raw = z := ⟨_, rfl⟩
  rw [hfe] at hfew CSH
  have HFEW := Lib.hid hfew
  have T0 := Lib.hid (((held0 w [] (fun _ h => by cases h)).add (keeps_sl B m) hm).add (keeps_sl A l) hl)
  have HTE := Lib.hid ht
  obtain ⟨n1, hn1⟩ : ∃ n, l.length = n := ⟨_, rfl⟩
  obtain ⟨n2, hn2⟩ : ∃ n, m.length = n := ⟨_, rfl⟩
  rw [hn1] at CS
  rw [hn2] at CP CSP
  rw [hn1, hn2]
  clear ht hl hm hc hc2 hd hd2 h1 h2 h3 h4 h6 e6 hhq hfe hfew hn1 hn2
  unfold SchemaU at CS
  unfold ProgP at CP
  unfold CopyP at CO CPL
  unfold BentP at CB
  unfold StrP at CSP CCH CCH2
  go_enter Tryd.func7, Tryd.ntmps7
  go_upto_region 2 with (first | (go_at_call 9; refine (CS.out _ (T0.out.fact (.head _))).mono ?_; rintro e w1 ⟨x, A1, c1, A2, c2, A3, c3, rfl, hsx, hu, hb⟩; have T1 := Lib.hid ((T0.out.below hb).add (keeps_rep x _) hu); have HSX := Lib.hid hsx; clear hsx hu hb) | (go_at_call 11; refine (CP.out x (.agg #[.int .i64 x.1, .slice A1 (Sc.kinds x).length c1, .slice A2 x.2.2.1.length c2, .slice A3 x.2.2.2.length c3]) _ ⟨_, rfl, T1.out.fact (.head _)⟩ HSX.out (T1.out.fact (.tail _ (.tail _ (.head _))))).mono ?_; rintro e w5 ⟨p, vp, rfl, hrp, hfp, hb⟩; obtain ⟨Aq, cq, rfl, _, _, hsq⟩ := sl_of hrp; have T5 := Lib.hid (T1.out.below hb); have HFP := Lib.hid hfp; have HSQ := Lib.hid hsq; clear hrp hfp hb hsq))
  have HSM := Lib.hid (T5.out.fact (.tail _ (.tail _ (.head _))))
  have HB5 := Lib.hid T5.out.bl
  clear T5 T1 T0 CS CP
  have HTW := Lib.hid (fun W (hb : Below w5.heap.size w5 W) => HTE.out.below (Below.then_ HB5.out hb) HTE.out.sz)
  have hpl := HFP.out.len
  have hpr := print_len' HFP.out
  obtain ⟨ts, hts⟩ : ∃ t : ByteArray, ⟨(Vm.print p).toArray⟩ = t := ⟨_, rfl⟩
  have HTS := Lib.hid (show ts.size ≤ 820 by rw [← hts]; show (Vm.print p).toArray.size ≤ _; simp; omega)
  have CPP := Lib.hid (fun A c W (h : SlAt [] W A p) hE => CPR.out p A c W h (by omega) hE)
  have CRPP := Lib.hid (fun W (hb : Below w5.heap.size w5 W) => CRP.out p Aq cq W (HSQ.out.keep (Chg.of_below hb)) (by omega))
  rw [hts] at CPP CRPP
  obtain ⟨q, hqe⟩ : ∃ z, Vm.bent p at_ how by_ = z := ⟨_, rfl⟩
  have CBQ := Lib.hid (fun W (hb : Below w5.heap.size w5 W) => (CB.out p Aq cq W (HSQ.out.keep (Chg.of_below hb)) (by omega)).mono (R' := fun e w' => ∃ v, e = .returned v ∧ Rep [] w' q v ∧ q.length ≤ 148 ∧ Below W.heap.size W w') fun e w' ⟨q', v, h1, h2, h3, h4, h5⟩ => by
    rw [hqe] at h5
    subst h5
    exact ⟨v, h1, h2, by omega, h4⟩)
  obtain ⟨tq, htq⟩ : ∃ t : ByteArray, ⟨(Vm.print q).toArray⟩ = t := ⟨_, rfl⟩
  have CPQ := Lib.hid (fun A c W (h : SlAt [] W A q) (hl : q.length ≤ 148) hE => CPR.out q A c W h (by omega) hE)
  have CRQ := Lib.hid (fun A c W (h : SlAt [] W A q) (hl : q.length ≤ 148) => CRP.out q A c W h (by omega))
  rw [htq] at CPQ CRQ
  have COP := Lib.hid (fun W (hb : Below w5.heap.size w5 W) => CO.out p Aq cq W (HSQ.out.keep (Chg.of_below hb)) (by omega))
  have HBc := Lib.hid (Below.refl w5.heap.size w5)
  clear hts hqe htq hpr CB CPR CRP
  go_upto_region 5 with (first | (go_at_call 23; ((with_reducible refine (CRPP.out _ HBc.out).mono ?_)); rintro e w6 ⟨rfl, hb⟩; replace HBc := Lib.hid (Below.then_ HBc.out hb); clear hb) | (go_at_call 15; ((with_reducible refine (COP.out _ HBc.out).mono ?_)); rintro e w6 ⟨v6, rfl, hr, hb⟩; obtain ⟨Ap, cp, rfl, _, _, hsp⟩ := sl_of hr; have HSP := Lib.hid hsp; clear hr hsp; replace HBc := Lib.hid (Below.then_ HBc.out hb); clear hb) | (go_at_call 24; ((with_reducible refine (CPP.out Ap cp _ HSP.out (HTW.out _ HBc.out)).mono ?_)); rintro e w7 ⟨rfl, hb⟩; replace HBc := Lib.hid (Below.then_ HBc.out hb); clear hb) | (go_at_call 12; ((with_reducible refine (CBQ.out _ HBc.out).mono ?_)); rintro e w8 ⟨v8, rfl, hr, hlq, hb⟩; obtain ⟨Ax, cx, rfl, _, _, hsx2⟩ := sl_of hr; have HSX2 := Lib.hid hsx2; have HLQ := Lib.hid hlq; clear hr hsx2 hlq; replace HBc := Lib.hid (Below.then_ HBc.out hb); clear hb) | (go_at_call 15; ((with_reducible refine (CO.out q Ax cx _ HSX2.out (by have := HLQ.out; omega)).mono ?_)); rintro e w9 ⟨v9, rfl, hr, hb⟩; obtain ⟨Ay, cy, rfl, _, _, hsy⟩ := sl_of hr; have HSY := Lib.hid hsy; clear hr hsy; replace HBc := Lib.hid (Below.then_ HBc.out hb); clear hb) | (go_at_call 24; ((with_reducible refine (CPQ.out Ay cy _ HSY.out HLQ.out (HTW.out _ HBc.out)).mono ?_)); rintro e w10 ⟨rfl, hb⟩; replace HBc := Lib.hid (Below.then_ HBc.out hb); clear hb) | (go_at_call 23; ((with_reducible refine (CRQ.out Ax cx _ HSX2.out HLQ.out).mono ?_)); rintro e w11 ⟨rfl, hb⟩; replace HBc := Lib.hid (Below.then_ HBc.out hb); clear hb))
  clear HSP HSX2 HSY HLQ CPP CRPP CBQ CPQ CRQ COP
  go_upto_region 6 with (go_at_call 25; ((with_reducible refine (CSH.out _).mono ?_)); rintro e w12 ⟨rfl, rfl⟩)
  have CS1 := Lib.hid (fun W (hb : Below w5.heap.size w5 W) => CSP.out ts W HTS.out (HSM.out.keep (Chg.of_below hb)))
  have hs1 : ¬ 9223372036854775807 < ts.size + few.size := by have := HTS.out; have := HFEW.out; omega
  have hs2 : ¬ 9223372036854775807 < 7 + few.size := by have := HFEW.out; omega
  go_upto_region 7 with (go_at_call 26; ((with_reducible refine (CS1.out _ HBc.out).mono ?_)); rintro e w13 ⟨t1, rfl, ht1, hb⟩; have HT1 := Lib.hid ht1; clear ht1; replace HBc := Lib.hid (Below.then_ HBc.out hb); clear hb)
  obtain ⟨tl, htl⟩ : ∃ z : List ByteArray, [ts, t1, few, ts ++ few, (⟨#[108, 111, 97, 100, 32, 48, 32]⟩ : ByteArray) ++ few, ⟨#[115, 116, 111, 112, 32, 48, 48, 55, 32, 106, 117, 109, 112, 32, 48, 48, 48, 48, 48, 48, 49]⟩, ⟨#[108, 111, 97, 100, 32, 55, 32, 45, 49, 48, 52, 56, 53, 55, 55]⟩, ⟨#[108, 111, 97, 100, 32, 55, 32, 49, 48, 52, 56, 53, 55, 54, 48]⟩] = z := ⟨_, rfl⟩
  have hcl : #[.string ts, .string t1, .string few, .string (ts ++ few), .string ((⟨#[108, 111, 97, 100, 32, 48, 32]⟩ : ByteArray) ++ few), .string ⟨#[115, 116, 111, 112, 32, 48, 48, 55, 32, 106, 117, 109, 112, 32, 48, 48, 48, 48, 48, 48, 49]⟩, .string ⟨#[108, 111, 97, 100, 32, 55, 32, 45, 49, 48, 52, 56, 53, 55, 55]⟩, .string ⟨#[108, 111, 97, 100, 32, 55, 32, 49, 48, 52, 56, 53, 55, 54, 48]⟩] = (tl.map Value.string).toArray := by rw [← htl]; rfl
  rw [hcl]
  have HSZ := Lib.hid (show ∀ t ∈ tl, t.size ≤ 1000000 by
    have h1 := HT1.out
    have h2 := HTS.out
    have h3 := HFEW.out
    have h4 : ts.size * (ts.size + 4) ≤ 820 * 824 := Nat.mul_le_mul (by omega) (by omega)
    intro t ht
    rw [← htl] at ht
    simp only [List.mem_cons, List.not_mem_nil, or_false] at ht
    rcases ht with rfl | rfl | rfl | rfl | rfl | rfl | rfl | rfl
    · omega
    · omega
    · omega
    · rw [ByteArray.size_append]; omega
    · rw [ByteArray.size_append]
      have : (⟨#[108, 111, 97, 100, 32, 48, 32]⟩ : ByteArray).size = 7 := rfl
      omega
    · decide
    · decide
    · decide)
  have HTL := Lib.hid (show tl.length = 8 by rw [← htl]; rfl)
  obtain ⟨M6, HT, _⟩ := (HR.start (held0 w13 [] (fun _ h => by cases h))).take (below_alloc w13 (.cells (tl.map Value.string).toArray 9)) (show (w13.alloc (.cells (tl.map Value.string).toArray 9)).ownsRow w13.heap.size 9 1 (.slice (some ⟨w13.heap.size, 0, none⟩) 8 8) 8 (tl.map Value.string) from World.ownsRow_lit w13 _ 8 (Nat.le_refl _) (by decide) (by simp [HTL.out]))
  have H6 := Lib.hid HT
  have HB14 := Lib.hid (Below.then_ HBc.out (below_alloc w13 (.cells (tl.map Value.string).toArray 9)))
  clear HT htl hcl hs1 hs2
  generalize hW : w13.alloc _ = W14 at H6 HB14 ⊢
  generalize w13.heap.size = gt at H6 ⊢
  clear hW CS1 CSH
  go_upto_if 67 with fail
  go_cut [16] from 17 (fun v16 w' => ∃ (tx : List ByteArray) (A : Option Addr) (c : Nat), v16 = .slice A tx.length c ∧ tx.length ≤ 10 ∧ (∀ t ∈ tx, t.size ≤ 1000000) ∧ SlAt [] w' A tx ∧ Below w5.heap.size w5 w')
  case first =>
    rename_i hK_
    by_cases h0 : 0 < ts.size
    · have CC1 := Lib.hid (fun W => CCH.out ts W HTS.out)
      go_wp2_with (first | (go_at_call 27; ((with_reducible refine (CC1.out _).mono ?_)); rintro e w15 ⟨t2, rfl, ht2, hb⟩; have HT2 := Lib.hid (show t2.size ≤ 1700 by have := HTS.out; omega); have H7 := Lib.hid (H6.out.below hb); clear ht2 hb) | (go_at_call 27; (try rw [e8]); ((with_reducible refine (CCH2.out t2 _ HT2.out).mono ?_)); rintro e w16 ⟨t3, rfl, ht3, hb⟩; have HT3 := Lib.hid (show t3.size ≤ 1000000 by have := HT2.out; omega); have H8 := Lib.hid (H7.out.below hb); clear ht3 hb) | (at_builtin; obtain ⟨i0, hI, hz0, hz1, hz2⟩ := info_parts infoStr'; refine wpList_append_rows (by rfl) _ _ 71 (by rfl) 9 i0 _ 1 16 Tryd.underlying71 hI hz0 hz1 hz2 rfl (by decide) (H8.out.below ((Below.refl _ _).alloc (Nat.le_refl _) _)) (by rfl) _ _ 2 2 [.string t2, .string t3] (by rfl) (reads_blk (Blk.new _ _ _) rfl) (by simp [Value.oneCell']) (by unfold maxLen; omega) (by omega) ?_; intro v5 w17 M9 h5 _; obtain ⟨A9, c9, rfl⟩ := h5.form (.head _); have H9 := Lib.hid h5; clear h5 hI hz0 hz1 hz2))
      go_meet
      case rel =>
        have hl : (tl ++ [t2, t3]).length = 8 + 2 := by rw [List.length_append, HTL.out]; rfl
        have hsz : ∀ t ∈ tl ++ [t2, t3], t.size ≤ 1000000 := fun t ht => by
          rcases List.mem_append.1 ht with ht | ht
          · exact HSZ.out t ht
          · simp only [List.mem_cons, List.not_mem_nil, or_false] at ht
            rcases ht with rfl | rfl
            · have := HT2.out; omega
            · exact HT3.out
        obtain ⟨A', c', e1, _, _, e4⟩ := H9.out.rowSl (α := ByteArray) (l := tl ++ [t2, t3]) (by rw [hl]; exact .head _) (by rw [show tl.map Value.string ++ [.string t2, .string t3] = (tl ++ [t2, t3]).map Value.string by rw [List.map_append]; rfl]; exact flat_strs hsz)
        rw [hl] at e1
        injection e1 with e1 _ e2
        subst e1 e2
        exact ⟨tl ++ [t2, t3], A9, c9, by rw [hl], by omega, hsz, e4, Below.then_ HBc.out H9.out.h.bl⟩
    · have hn : ts.size = 0 := by omega
      go_wp2_with fail
      go_meet
      case rel =>
        obtain ⟨A', c', e1, _, _, e4⟩ := H6.out.rowSl (α := ByteArray) (l := tl) (by rw [HTL.out]; exact .head _) (flat_strs HSZ.out)
        rw [HTL.out] at e1
        injection e1 with e1 _ e2
        subst e1 e2
        exact ⟨tl, some ⟨gt, 0, none⟩, 8, by rw [HTL.out], by rw [HTL.out]; omega, HSZ.out, e4, HB14.out⟩
  case rest =>
    obtain ⟨tx, A16, c16, rfl, hx10, hxs, hxa, hxb⟩ := hcut
    obtain ⟨wl0, rfl⟩ : ∃ z : World, z = wc := ⟨_, rfl⟩
    have HXS := Lib.hid hxs
    have HXA := Lib.hid hxa
    have HXB := Lib.hid hxb
    clear hxs hxa hxb H6 HB14 HSZ HTL CCH CCH2 CSP e8
    go_wp2_with fail
    go_loopg [18] tx.length (fun r i wr => ∃ j : Nat, j + r = tx.length ∧ i = .int .i64 j ∧ Below wl0.heap.size wl0 wr)
    case atStart => exact ⟨0, by omega, rfl, Below.refl _ _⟩
    case round =>
      obtain ⟨j, hj, rfl, hbl⟩ := hrel
      obtain ⟨wo, rfl⟩ : ∃ wo : World, wo = wr := ⟨_, rfl⟩
      have HBL := Lib.hid hbl
      clear hbl
      by_cases hlt : j < tx.length
      · have k1 : (j : Int) < (tx.length : Int) := by omega
        have k0 : (0 : Int) ≤ (j : Int) := by omega
        have HXO := Lib.hid (HXA.out.keep (Chg.of_below HBL.out))
        obtain ⟨b8, o8, rfl, -, x0, -⟩ := str_at HXO.out j hlt
        have hts := HXS.out _ (List.getElem_mem hlt)
        obtain ⟨tt, htt⟩ : ∃ z, tx[j] = z := ⟨_, rfl⟩
        rw [htt] at x0 hts
        have HSL := Lib.hid (fun W (hb : Below wo.heap.size wo W) => (hb.cell (World.block_lt_of_cell? _ _ x0)).trans x0)
        obtain ⟨⟨pp, pa, pe⟩, hpp⟩ : ∃ z, Vm.parse tt.data.toList = z := ⟨_, rfl⟩
        have hplen : pp.length ≤ 128 := by have := parse_len tt.data.toList; rw [hpp] at this; exact this
        have CQ := Lib.hid (fun W => (parse_any tt W hts).mono (R' := fun e w' => ∃ v, e = .returned (.tuple #[v, .int .i64 pa, .int .i64 pe]) ∧ Rep [] w' pp v ∧ Below W.heap.size W w') fun e w' h => by
          unfold ParseP at h
          rw [hpp] at h
          exact h)
        have CRQ := Lib.hid (fun W => (rParse_any tt W hts).mono (R' := fun e w' => ∃ v, e = .returned (.tuple #[v, .int .i64 pa, .int .i64 pe]) ∧ Rep [] w' pp v ∧ Below W.heap.size W w') fun e w' h => by
          unfold ParseP at h
          rw [hpp] at h
          exact h)
        have CPS := Lib.hid (fun A B c d W (ha : SlAt [] W A pp) (hb : SlAt [] W B pp) => samePrograms_any pp pp A B c d W ha hb (by omega) (by omega))
        rw [decide_eq_true rfl] at CPS
        have HPL := Lib.hid hplen
        clear htt hts hpp hplen
        go_upto_region 14 with (go_at_call 28; ((with_reducible refine (CQ.out _).mono ?_)); rintro e w18 ⟨v18, rfl, hr, hb⟩; obtain ⟨Ap, cp, rfl, _, _, hsp⟩ := sl_of hr; have HSA := Lib.hid hsp; have HBB := Lib.hid hb; clear hr hsp hb)
        have x1 := HSL.out _ HBB.out
        go_upto_region 15 with (go_at_call 29; ((with_reducible refine (CRQ.out _).mono ?_)); rintro e w19 ⟨v19, rfl, hr, hb⟩; obtain ⟨Aq2, cq2, rfl, _, _, hsq⟩ := sl_of hr; have HSB := Lib.hid hsq; have HSA2 := Lib.hid (HSA.out.keep (Chg.of_below hb)); have HBB2 := Lib.hid (Below.then_ HBB.out hb); clear hr hsq hb)
        clear x0 x1
        go_wp2_with (first | (go_at_call 31; ((with_reducible refine (CPL.out pp Ap cp _ HSA2.out (by have := HPL.out; omega)).mono ?_)); rintro e w20 ⟨v20, rfl, hr, hb⟩; obtain ⟨Ar, cr, rfl, _, _, hsr⟩ := sl_of hr; have HSR := Lib.hid hsr; have HSB2 := Lib.hid (HSB.out.keep (Chg.of_below hb)); have HBB3 := Lib.hid (Below.then_ HBB2.out hb); clear hr hsr hb) | (go_at_call 30; ((with_reducible refine (CPS.out Ar Aq2 cr cq2 _ HSR.out HSB2.out).mono ?_)); rintro e w21 ⟨rfl, hb⟩; have HBB4 := Lib.hid (Below.then_ HBL.out (Below.then_ HBB3.out hb)); clear hb))
        go_roundg (gk - 1)
        case measure => omega
        case rel => exact ⟨j + 1, by omega, by go_num, HBB4.out⟩
      · obtain rfl : j = tx.length := by omega
        have HBF := Lib.hid (Below.then_ HB5.out (Below.then_ HXB.out HBL.out))
        go_wp2_with (go_at_call 17; ((with_reducible refine (CL.out _).mono ?_)); rintro e w22 ⟨rfl, hb⟩; replace HBF := Lib.hid (Below.then_ HBF.out hb); clear hb)
        go_ret
        exact ⟨rfl, HBF.out⟩
end Go.Proofs.YtdpcdocaahjeoaaDoor
