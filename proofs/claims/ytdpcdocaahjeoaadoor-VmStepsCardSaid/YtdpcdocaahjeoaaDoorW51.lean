/- VmSteps: the law's walk. -/
import Derived.Test.YtdpcdocaahjeoaaDoorVmL2
import Derived.WalkLawsBesides
import Derived.Laws.StructEq
import Derived.Deep.RegionHeld3
namespace Go.Proofs.YtdpcdocaahjeoaaDoor
open Go Go.RowKit
set_option maxRecDepth 100000 in
set_option maxHeartbeats 16000000 in
theorem law_steps (l m k : List Int) (A B C : Option Addr) (c d f : Nat) (more : Int) (w : World) (hl : SlAt [] w A l) (hm : SlAt [] w B m) (hk : SlAt [] w C k) (hc : l.length ≤ c) (hc2 : c ≤ 9223372036854775807) (hd : m.length ≤ d) (hd2 : d ≤ 9223372036854775807) (hf : k.length ≤ f) (hf2 : f ≤ 9223372036854775807) (h1 : inI more) :
    Calls Tryd.prog 4 #[.slice A l.length c, .slice B m.length d, .slice C k.length f, .int .i64 more] w fun e w' => e = .returned (.bool true) ∧ Below w.heap.size w w' := by
  have CS := Lib.hid (fun W (h : SlAt [] W A l) => schemaU_any l A c W h hc hc2)
  have CW := Lib.hid (fun (x : Sch) (v : Value) W (hx : SchV x W v) (hs : Sg.Schema x) (h : SlAt [] W C k) => world_any x v k C f false W hx h (by omega) (by have := hs.bd'.2.1; omega) (fun kn hkn => by have := (hs.bd'.2.2 kn hkn).2; omega))
  have CP := Lib.hid (fun (x : Sch) (v : Value) W (hx : SchV x W v) (hk : Sg.Schema x) (h : SlAt [] W B m) => program_any x v m B d W hx h (by omega) hk.bd'.1 (by have := hk.bd'.2.1; omega) hk.bd'.2.2)
  have CO := Lib.hid (fun (p : List Vm.Ins) A c W (h : SlAt [] W A p) (hp : p.length ≤ 20) => own_any p A c W h (by omega))
  have CL := Lib.hid lives_any
  have HA := Lib.hid (fun (z : Int) (W : World) => around_any more z W h1.1 h1.2)
  have T0 := Lib.hid ((((held0 w [] (fun _ h => by cases h)).add (keeps_sl C k) hk).add (keeps_sl B m) hm).add (keeps_sl A l) hl)
  obtain ⟨n1, hn1⟩ : ∃ n, l.length = n := ⟨_, rfl⟩
  obtain ⟨n2, hn2⟩ : ∃ n, m.length = n := ⟨_, rfl⟩
  obtain ⟨n3, hn3⟩ : ∃ n, k.length = n := ⟨_, rfl⟩
  rw [hn1] at CS
  rw [hn2] at CP
  rw [hn3] at CW
  rw [hn1, hn2, hn3]
  clear hl hm hk hc hc2 hd hd2 hf hf2 h1 hn1 hn2 hn3
  unfold SchemaU at CS
  unfold ProgP at CP
  unfold WorldP at CW
  unfold CopyP at CO
  go_enter Tryd.func4, Tryd.ntmps4
  go_upto_region 2 with (go_at_call 9; refine (CS.out _ (T0.out.fact (.head _))).mono ?_; rintro e w1 ⟨x, A1, c1, A2, c2, A3, c3, rfl, hsx, hu, hb⟩; have T1 := Lib.hid ((T0.out.below hb).add (keeps_rep x _) hu); have HSX := Lib.hid hsx; clear hsx hu hb)
  have T2 := Lib.hid (T1.out.made #[.int .i64 x.1, .slice A1 (Sc.kinds x).length c1, .slice A2 x.2.2.1.length c2, .slice A3 x.2.2.2.length c3] 27 rfl)
  generalize hW : w1.alloc _ = W2 at T2 ⊢
  generalize w1.heap.size = gx at T2 ⊢
  clear hW T1 T0
  have HX := Lib.hid (T2.out.fact (.tail _ (.head _)))
  have C2 := Lib.hid (CW.out x (.agg #[.int .i64 x.1, .slice A1 (Sc.kinds x).length c1, .slice A2 x.2.2.1.length c2, .slice A3 x.2.2.2.length c3]) W2 ⟨_, rfl, HX.out⟩ HSX.out (T2.out.fact (.tail _ (.tail _ (.tail _ (.tail _ (.head _)))))))
  have y := cells4 (T2.out.blk (.head _))
  obtain ⟨y0, y1, y2, y3⟩ := y
  go_upto_region 3 with (go_at_call 10; ((with_reducible refine (C2.out).mono ?_)); rintro e w3 ⟨wl, v3, rfl, hrw, hlw, hbw, hb⟩; obtain ⟨Aw, cw, rfl, _, _, hsw⟩ := sl_of hrw; have T3 := Lib.hid ((T2.out.below hb).add (keeps_sl Aw wl) hsw); have HWL := Lib.hid hlw; have HWB := Lib.hid hbw; clear hrw hlw hbw hb hsw)
  have T4 := Lib.hid (T3.out.made #[.slice Aw wl.length cw] 46 rfl)
  generalize hW : w3.alloc _ = W4 at T4 ⊢
  generalize w3.heap.size = gw at T4 ⊢
  clear hW T3 T2 C2 HX y0 y1 y2 y3
  obtain ⟨y0, y1, y2, y3⟩ := cells4 (T4.out.blk (.tail _ (.tail _ (.head _))))
  have C3 := Lib.hid (CP.out x (.agg #[.int .i64 x.1, .slice A1 (Sc.kinds x).length c1, .slice A2 x.2.2.1.length c2, .slice A3 x.2.2.2.length c3]) W4 ⟨_, rfl, T4.out.fact (.tail _ (.tail _ (.tail _ (.head _))))⟩ HSX.out (T4.out.fact (.tail _ (.tail _ (.tail _ (.tail _ (.tail _ (.head _))))))))
  go_upto_region 4 with (first | (go_at_call 11; ((with_reducible refine (C3.out).mono ?_)); rintro e w5 ⟨p, vp, rfl, hrp, hfp, hb⟩; obtain ⟨Aq, cq, rfl, _, _, hsq⟩ := sl_of hrp; have T5 := Lib.hid (T4.out.below hb); have HFP := Lib.hid hfp; have HSQ := Lib.hid hsq; clear hrp hfp hb hsq) | (go_at_call 15; ((with_reducible refine (CO.out p Aq cq _ HSQ.out HFP.out.len).mono ?_)); rintro e w6 ⟨v6, rfl, hr6, hb⟩; obtain ⟨Ap, cp, rfl, _, _, hsp⟩ := sl_of hr6; have T6 := Lib.hid ((T5.out.below hb).add (keeps_sl Ap p) hsp); clear hr6 hb hsp))
  have HSP := Lib.hid (T6.out.fact (.head _))
  have HBW := Lib.hid (T6.out.blk (.tail _ (.head _)))
  have HSW := Lib.hid (T6.out.fact (.tail _ (.tail _ (.head _))))
  have HBX := Lib.hid (T6.out.blk (.tail _ (.tail _ (.tail _ (.head _)))))
  have HMX := Lib.hid (T6.out.fact (.tail _ (.tail _ (.tail _ (.tail _ (.head _))))))
  have HB6 := Lib.hid T6.out.bl
  clear T6 T5 T4 C3 HSQ y0 y1 y2 y3
  have HC := Lib.hid (fun W (hb : Below w6.heap.size w6 W) => cells4 (HBX.out.below hb HBX.out.lt))
  have HZ := Lib.hid (fun W (hb : Below w6.heap.size w6 W) => cells1' (HBW.out.below hb HBW.out.lt))
  have hp1000 : p.length ≤ 1000000 := by have := HFP.out.len; omega
  have hw1000 : wl.length ≤ 1000000 := by have := HWL.out; have := HSX.out.bd'.2.1; omega
  obtain ⟨⟨rc, rt, re⟩, hr⟩ : ∃ z, Vm.run (shp (Sc.kinds x)) p wl 400 = z := ⟨_, rfl⟩
  have CR := Lib.hid (fun (N a b c : Int) (hr : Vm.run (shp (Sc.kinds x)) p wl N = (a, b, c)) => run_env (us := #[.int .i64 x.1, .slice A1 (Sc.kinds x).length c1, .slice A2 x.2.2.1.length c2, .slice A3 x.2.2.2.length c3]) HMX.out HSP.out hp1000 HSW.out hw1000 N hr cp cw)
  have C4 := Lib.hid (CR.out 400 _ _ _ hr)
  have hre := Vm.run_err HFP.out (by omega) (by omega) (by omega) hr
  have hmo := fun he : re = 0 => Vm.run_more HFP.out (by omega) (by omega) (by omega) (he ▸ hr)
  have HMO := Lib.hid hmo
  have HRE := Lib.hid hre
  clear hr hre hmo hp1000 hw1000
  obtain ⟨y0, y1, y2, y3⟩ := HC.out _ (Below.refl _ _)
  have z0 := HZ.out _ (Below.refl _ _)
  go_upto_region 5 with (go_at_call 14; ((with_reducible refine (C4.out _ (Below.refl _ _)).mono ?_)); rintro e w7 ⟨rfl, hb7⟩; have HB7 := Lib.hid hb7; clear hb7)
  have HBR := Lib.hid (Blk.new w7 38 #[.int .i64 rc, .int .i64 rt])
  have HB8 := Lib.hid (HB7.out.alloc HB7.out.size (.cells #[.int .i64 rc, .int .i64 rt] 38))
  generalize hW : w7.alloc _ = W8 at HBR HB8 ⊢
  generalize w7.heap.size = gr at HBR ⊢
  clear hW HB7 C4 y0 y1 y2 y3 z0
  rcases HRE.out with rfl | ⟨rfl, rfl, rfl⟩
  · obtain ⟨ht0, ht4, hmore, hless, hlen0⟩ := HMO.out rfl
    have hz := around_bd more 999600 (by omega)
    obtain ⟨z, hze⟩ : ∃ z, around more 999600 = z := ⟨_, rfl⟩
    have CA := Lib.hid (fun W => HA.out 999600 W)
    rw [hze] at hz CA
    obtain ⟨hz1, hz2⟩ := hz
    have C7 := Lib.hid (CR.out (IntKind.i64.wrap (400 + z)) rc rt 0 (by rw [wrapI (z := 400 + z) (by unfold inI; omega)]; exact hmore _ (by omega) (by omega)))
    have C8 := Lib.hid (CR.out rt rc rt 0 (hmore rt (by omega) (by omega)))
    have HLS := Lib.hid hless
    have HL0 := Lib.hid hlen0
    clear hmore hless hlen0 hze
    go_upto_region 7 with fail
    have E8 := Lib.hid (fun W (hb : Below W8.heap.size W8 W) => let h := HC.out W (Below.then_ HB8.out hb); (⟨h.1, h.2.1, h.2.2.1, h.2.2.2, HZ.out W (Below.then_ HB8.out hb)⟩ : (fun w' => w'.cell? ⟨gx, 0, none⟩ = some (.int .i64 x.1) ∧ w'.cell? ⟨gx, 1, none⟩ = some (.slice A1 (Sc.kinds x).length c1) ∧ w'.cell? ⟨gx, 2, none⟩ = some (.slice A2 x.2.2.1.length c2) ∧ w'.cell? ⟨gx, 3, none⟩ = some (.slice A3 x.2.2.2.length c3) ∧ w'.cell? ⟨gw, 0, none⟩ = some (.slice Aw wl.length cw)) W))
    go_cut [14, 15] from 45 to 55 (fun a b w' => ∃ g, a = .pointer (some ⟨g, 0, none⟩) ∧ b = .int .i64 0 ∧ ResBox W8 w' g 38 (.int .i64 rc) (.int .i64 rt))
    case first =>
      rename_i hK
      obtain ⟨y0, y1, y2, y3, y4⟩ := E8.out _ (below_drew _)
      go_region_held3 (fun w' => w'.cell? ⟨gx, 0, none⟩ = some (.int .i64 x.1) ∧ w'.cell? ⟨gx, 1, none⟩ = some (.slice A1 (Sc.kinds x).length c1) ∧ w'.cell? ⟨gx, 2, none⟩ = some (.slice A2 x.2.2.1.length c2) ∧ w'.cell? ⟨gx, 3, none⟩ = some (.slice A3 x.2.2.2.length c3) ∧ w'.cell? ⟨gw, 0, none⟩ = some (.slice Aw wl.length cw)) (first | exact E8.out _ (below_drew _) | exact E8.out _ (below_drew_alloc _ _) | exact E8.out _ (below_alloc_drew _ _) | exact E8.out _ HB9.out | exact HQ1.out _ | exact HQ3.out _ _) (first | (go_at_call 13; ((with_reducible refine (CA.out _).mono ?_)); rintro e w2 ⟨rfl, rfl⟩) | (go_at_call 14; ((with_reducible refine (C7.out _ (Below.then_ HB8.out (by first | exact below_drew _ | exact below_drew_alloc _ _ | exact below_alloc_drew _ _))).mono ?_)); rintro e w9 ⟨rfl, hb⟩; have HB9 := Lib.hid (Below.then_ (a := W8) (by first | exact below_drew _ | exact below_drew_alloc _ _ | exact below_alloc_drew _ _) hb); obtain ⟨q0, q1, q2, q3, q4⟩ := E8.out _ HB9.out; have HQ1 := Lib.hid (fun o => E8.out _ (Below.then_ HB9.out (below_alloc w9 o))); have p0 := hb.cell (p := ⟨W8.heap.size, 0, none⟩); (try simp at p0); have p1 := hb.cell (p := ⟨W8.heap.size, 1, none⟩); (try simp at p1); have p2 := hb.frozen (p := ⟨W8.heap.size, 0, none⟩); (try simp at p2); have p3 := hb.frozen (p := ⟨W8.heap.size, 1, none⟩); (try simp at p3); have HB := Lib.hid hb; have HQ3 := Lib.hid (fun u v => E8.out _ ((HB9.out.setCell (p := ⟨W8.heap.size, 0, none⟩) (Nat.le_refl _) u).setCell (p := ⟨W8.heap.size, 1, none⟩) (Nat.le_refl _) v)); clear hb))
      all_goals
        go_wp2_with fail
        go_meet
        case rel => first | exact ⟨_, rfl, rfl, res_fill HB.out _ _⟩ | exact ⟨_, rfl, rfl, res_new _ (Below.then_ (below_drew _) HB.out) _ _⟩
    case rest =>
      obtain ⟨gs, rfl, rfl, hrb⟩ := hcut
      have HB9 := Lib.hid (Below.then_ HB8.out hrb.1)
      have HBR2 := Lib.hid (HBR.out.below hrb.1 HBR.out.lt)
      have HBS := Lib.hid hrb.2.2
      clear hrb C7
      obtain ⟨y0, y1, y2, y3⟩ := HC.out _ HB9.out
      have z0 := HZ.out _ HB9.out
      obtain ⟨r0, r1⟩ := cells2' HBR2.out
      have e1 : max rt 0 = rt := by omega
      go_upto_region 9 with (go_at_call 14; ((with_reducible refine (C8.out _ HB9.out).mono ?_)); rintro e w10 ⟨rfl, hb⟩; have HB10 := Lib.hid hb; clear hb)
      have HBT := Lib.hid (Blk.new w10 38 #[.int .i64 rc, .int .i64 rt])
      have HB10' := Lib.hid (Below.then_ HB10.out (below_alloc w10 (.cells #[.int .i64 rc, .int .i64 rt] 38)))
      generalize hW : w10.alloc _ = W11 at HBT HB10' ⊢
      generalize w10.heap.size = gt at HBT ⊢
      have HB11 := Lib.hid (Below.then_ HB9.out HB10'.out)
      have HBR3 := Lib.hid (HBR2.out.below HB10'.out HBR2.out.lt)
      have HBS3 := Lib.hid (HBS.out.below HB10'.out HBS.out.lt)
      clear hW HB10 C8 y0 y1 y2 y3 z0 r0 r1 HBR2 HBS HB10'
      obtain ⟨r0, r1⟩ := cells2' HBR3.out
      obtain ⟨s0, s1⟩ := cells2' HBS3.out
      obtain ⟨t0, t1⟩ := cells2' HBT.out
      have n1 : ¬ rt < 0 := by omega
      have n2 : ¬ 400 < rt := by omega
      by_cases hrt : rt = 0
      · subst hrt
        have hpl := HL0.out rfl
        have HBF := Lib.hid (Below.then_ HB6.out HB11.out)
        clear n1 n2 ht0 ht4
        go_wp2_with (go_at_call 17; ((with_reducible refine (CL.out _).mono ?_)); rintro e w12 ⟨rfl, hb⟩; replace HBF := Lib.hid (Below.then_ HBF.out hb); clear hb)
        go_ret
        exact ⟨rfl, HBF.out⟩
      · have t3 : (rt == 0) = false := by rw [beq_eq_false_iff_ne]; exact hrt
        have hz := around_bd more rt (by omega)
        obtain ⟨z', hze⟩ : ∃ z, around more rt = z := ⟨_, rfl⟩
        have CA2 := Lib.hid (fun W => HA.out rt W)
        rw [hze] at hz CA2
        obtain ⟨hz3, hz4⟩ := hz
        have C13 := Lib.hid (CR.out z' 0 0 23 (HLS.out _ (by omega) (by omega)))
        clear hze hrt
        go_upto_region 13 with fail
        have E11 := Lib.hid (fun W (hb : Below W11.heap.size W11 W) => let h := HC.out W (Below.then_ HB11.out hb); (⟨h.1, h.2.1, h.2.2.1, h.2.2.2, HZ.out W (Below.then_ HB11.out hb), (cells2' (HBR3.out.below hb HBR3.out.lt)).2⟩ : (fun w' => w'.cell? ⟨gx, 0, none⟩ = some (.int .i64 x.1) ∧ w'.cell? ⟨gx, 1, none⟩ = some (.slice A1 (Sc.kinds x).length c1) ∧ w'.cell? ⟨gx, 2, none⟩ = some (.slice A2 x.2.2.1.length c2) ∧ w'.cell? ⟨gx, 3, none⟩ = some (.slice A3 x.2.2.2.length c3) ∧ w'.cell? ⟨gw, 0, none⟩ = some (.slice Aw wl.length cw) ∧ w'.cell? ⟨gr, 1, none⟩ = some (.int .i64 rt)) W))
        go_cut [18, 19] from 102 to 113 (fun a b w' => ∃ g, a = .pointer (some ⟨g, 0, none⟩) ∧ b = .int .i64 23 ∧ ResBox W11 w' g 38 (.int .i64 0) (.int .i64 0))
        case first =>
          rename_i hK
          obtain ⟨y0, y1, y2, y3, y4, y5⟩ := E11.out _ (below_drew _)
          go_region_held3 (fun w' => w'.cell? ⟨gx, 0, none⟩ = some (.int .i64 x.1) ∧ w'.cell? ⟨gx, 1, none⟩ = some (.slice A1 (Sc.kinds x).length c1) ∧ w'.cell? ⟨gx, 2, none⟩ = some (.slice A2 x.2.2.1.length c2) ∧ w'.cell? ⟨gx, 3, none⟩ = some (.slice A3 x.2.2.2.length c3) ∧ w'.cell? ⟨gw, 0, none⟩ = some (.slice Aw wl.length cw) ∧ w'.cell? ⟨gr, 1, none⟩ = some (.int .i64 rt)) (first | exact E11.out _ (below_drew _) | exact E11.out _ (below_drew_alloc _ _) | exact E11.out _ (below_alloc_drew _ _) | exact E11.out _ HB9.out | exact HQ1.out _ | exact HQ3.out _ _) (first | (go_at_call 13; ((with_reducible refine (CA2.out _).mono ?_)); rintro e w2 ⟨rfl, rfl⟩) | (go_at_call 14; ((with_reducible refine (C13.out _ (Below.then_ HB11.out (by first | exact below_drew _ | exact below_drew_alloc _ _ | exact below_alloc_drew _ _))).mono ?_)); rintro e w9 ⟨rfl, hb⟩; have HB9 := Lib.hid (Below.then_ (a := W11) (by first | exact below_drew _ | exact below_drew_alloc _ _ | exact below_alloc_drew _ _) hb); obtain ⟨q0, q1, q2, q3, q4, q5⟩ := E11.out _ HB9.out; have HQ1 := Lib.hid (fun o => E11.out _ (Below.then_ HB9.out (below_alloc w9 o))); have p0 := hb.cell (p := ⟨W11.heap.size, 0, none⟩); (try simp at p0); have p1 := hb.cell (p := ⟨W11.heap.size, 1, none⟩); (try simp at p1); have p2 := hb.frozen (p := ⟨W11.heap.size, 0, none⟩); (try simp at p2); have p3 := hb.frozen (p := ⟨W11.heap.size, 1, none⟩); (try simp at p3); have HB := Lib.hid hb; have HQ3 := Lib.hid (fun u v => E11.out _ ((HB9.out.setCell (p := ⟨W11.heap.size, 0, none⟩) (Nat.le_refl _) u).setCell (p := ⟨W11.heap.size, 1, none⟩) (Nat.le_refl _) v)); clear hb))
          all_goals
            go_wp2_with fail
            go_meet
            case rel => first | exact ⟨_, rfl, rfl, res_fill HB.out _ _⟩ | exact ⟨_, rfl, rfl, res_new _ (Below.then_ (below_drew _) HB.out) _ _⟩
        case rest =>
          obtain ⟨gu, rfl, rfl, hrb⟩ := hcut
          have HBF := Lib.hid (Below.then_ HB6.out (Below.then_ HB11.out hrb.1))
          clear hrb n1 n2 t3 r0 r1 s0 s1 t0 t1
          go_wp2_with (go_at_call 17; ((with_reducible refine (CL.out _).mono ?_)); rintro e w12 ⟨rfl, hb⟩; replace HBF := Lib.hid (Below.then_ HBF.out hb); clear hb)
          go_ret
          exact ⟨rfl, HBF.out⟩
  · have HB9 := Lib.hid (HB6.out.trans (HB8.out.mono HB6.out.size))
    go_wp2_with (go_at_call 17; ((with_reducible refine (CL.out _).mono ?_)); rintro e w8 ⟨rfl, hb⟩; replace HB9 := Lib.hid (HB9.out.trans (hb.mono HB9.out.size)); clear hb)
    go_ret
    exact ⟨rfl, HB9.out⟩
end Go.Proofs.YtdpcdocaahjeoaaDoor
