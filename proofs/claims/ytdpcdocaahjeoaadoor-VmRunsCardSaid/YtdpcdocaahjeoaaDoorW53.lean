/- VmRuns: the law's walk. -/
import Derived.Test.YtdpcdocaahjeoaaDoorVmL2
import Derived.Test.YtdpcdocaahjeoaaDoorW49
import Derived.Test.YtdpcdocaahjeoaaDoorW13
import Derived.WalkLawsBesides
import Derived.Laws.StructEq
import Derived.Deep.RegionHeld3
namespace Go.Proofs.YtdpcdocaahjeoaaDoor
open Go Go.RowKit
/-- The reference's run from a world that has all that it reads. -/
theorem rrun_env {x : Sch} {us : Array Value} {p : List Vm.Ins} {Ap : Option Addr} {wl : Wor} {Aw : Option Addr} {w : World} (hx : Mem.rep [] w x us.toList) (hp : SlAt [] w Ap p) (hm : p.length ≤ 1000000) (hw : SlAt [] w Aw wl) (hwm : wl.length ≤ 1000000) (hok : WorOk (shp (Sc.kinds x)) wl)
    (N : Int) {a b c : Int} (hr : Vm.run (shp (Sc.kinds x)) p wl N = (a, b, c)) (cp cw : Nat) (W : World) (hb : Below w.heap.size w W) :
    Calls Tryd.prog 16 #[.agg us, .slice Ap p.length cp, .slice Aw wl.length cw, .int .i64 N] W fun e w' => e = .returned (.tuple #[.agg #[.int .i64 a, .int .i64 b], .int .i64 c]) ∧ Below W.heap.size W w' :=
  (rRun_any x (.agg us) p Ap cp wl Aw cw N W ⟨us.toList, by simp, Mem.keep hx (Chg.of_below (G := []) hb)⟩ (hp.keep (Chg.of_below hb)) (by omega) (hw.keep (Chg.of_below hb)) (by omega) hok).mono fun e w' ⟨h, hb⟩ => ⟨by
    rw [hr] at h
    exact h, hb⟩
theorem four_at (m : Int) (_hm : inI m) (z : Nat) (h : z < 4) : ∃ x : Int, (#[.int .i64 (-1), .int .i64 0, .int .i64 1000001, .int .i64 m] : Array Value)[z]? = some (.int .i64 x) := by
  match z, h with
  | 0, _ | 1, _ | 2, _ | 3, _ => exact ⟨_, rfl⟩
theorem three_at (a b : Int) (z : Nat) (h : z < 3) : ∃ x : Int, (#[.int .i64 300, .int .i64 a, .int .i64 b] : Array Value)[z]? = some (.int .i64 x) := by
  match z, h with
  | 0, _ | 1, _ | 2, _ => exact ⟨_, rfl⟩
set_option maxRecDepth 100000 in
set_option maxHeartbeats 16000000 in
theorem law_runs (l m k : List Int) (A B C : Option Addr) (c d f : Nat) (at_ how by_ most : Int) (w : World) (hl : SlAt [] w A l) (hm : SlAt [] w B m) (hk : SlAt [] w C k) (hc : l.length ≤ c) (hc2 : c ≤ 9223372036854775807) (hd : m.length ≤ d) (hd2 : d ≤ 9223372036854775807) (hf : k.length ≤ f) (hf2 : f ≤ 9223372036854775807) (h1 : inI at_) (h2 : inI how) (h3 : inI by_) (h4 : inI most) :
    Calls Tryd.prog 3 #[.slice A l.length c, .slice B m.length d, .slice C k.length f, .int .i64 at_, .int .i64 how, .int .i64 by_, .int .i64 most] w fun e w' => e = .returned (.bool true) ∧ Below w.heap.size w w' := by
  have CS := Lib.hid (fun W (h : SlAt [] W A l) => schemaU_any l A c W h hc hc2)
  have CW := Lib.hid (fun (x : Sch) (v : Value) (odd : Bool) W (hx : SchV x W v) (hs : Sg.Schema x) (h : SlAt [] W C k) => world_any x v k C f odd W hx h (by omega) (by have := hs.bd'.2.1; omega) (fun kn hkn => by have := (hs.bd'.2.2 kn hkn).2; omega))
  have CP := Lib.hid (fun (x : Sch) (v : Value) W (hx : SchV x W v) (hk : Sg.Schema x) (h : SlAt [] W B m) => program_any x v m B d W hx h (by omega) hk.bd'.1 (by have := hk.bd'.2.1; omega) hk.bd'.2.2)
  have CB := Lib.hid (fun (p : List Vm.Ins) (A : Option Addr) (c : Nat) W (h : SlAt [] W A p) (hp : p.length ≤ 1000) => bent_any p A c at_ how by_ W h hp h1 h2 h3)
  have CO := Lib.hid (fun (p : List Vm.Ins) A c W (h : SlAt [] W A p) (hp : p.length ≤ 1000) => own_any p A c W h (by omega))
  have CL := Lib.hid lives_any
  have hz4 := around_bd by_ 4 (by omega)
  obtain ⟨z4, hz4e⟩ : ∃ z : Nat, around by_ 4 = z := ⟨(around by_ 4).toNat, by omega⟩
  have CA4 := Lib.hid (fun W => around_any by_ 4 W h3.1 h3.2)
  rw [hz4e] at hz4 CA4
  have hz40 := around_bd most 40 (by omega)
  have CA40 := Lib.hid (fun W => around_any most 40 W h4.1 h4.2)
  obtain ⟨z40, hz40e⟩ : ∃ z, around most 40 = z := ⟨_, rfl⟩
  rw [hz40e] at hz40 CA40
  obtain ⟨nv, hnv⟩ := four_at most h4 z4 (by omega)
  have HNV := Lib.hid hnv
  have T0 := Lib.hid ((((held0 w [] (fun _ h => by cases h)).add (keeps_sl C k) hk).add (keeps_sl B m) hm).add (keeps_sl A l) hl)
  obtain ⟨n1, hn1⟩ : ∃ n, l.length = n := ⟨_, rfl⟩
  obtain ⟨n2, hn2⟩ : ∃ n, m.length = n := ⟨_, rfl⟩
  obtain ⟨n3, hn3⟩ : ∃ n, k.length = n := ⟨_, rfl⟩
  rw [hn1] at CS
  rw [hn2] at CP
  rw [hn3] at CW
  rw [hn1, hn2, hn3]
  have h14 : (z4 : Int) < 4 := hz4.2
  clear hl hm hk hc hc2 hd hd2 hf hf2 h1 h2 h3 h4 hn1 hn2 hn3 hz4 hz4e hz40e hnv hz40
  unfold SchemaU at CS
  unfold ProgP at CP
  unfold WorldP at CW
  unfold CopyP at CO
  unfold BentP at CB
  go_enter Tryd.func3, Tryd.ntmps3
  go_upto_region 2 with (go_at_call 9; refine (CS.out _ (T0.out.fact (.head _))).mono ?_; rintro e w1 ⟨x, A1, c1, A2, c2, A3, c3, rfl, hsx, hu, hb⟩; have T1 := Lib.hid ((T0.out.below hb).add (keeps_rep x _) hu); have HSX := Lib.hid hsx; clear hsx hu hb)
  have T2 := Lib.hid (T1.out.made #[.int .i64 x.1, .slice A1 (Sc.kinds x).length c1, .slice A2 x.2.2.1.length c2, .slice A3 x.2.2.2.length c3] 27 rfl)
  generalize hW : w1.alloc _ = W2 at T2 ⊢
  generalize w1.heap.size = gx at T2 ⊢
  clear hW T1 T0
  have HX := Lib.hid (T2.out.fact (.tail _ (.head _)))
  have C2 := Lib.hid (fun odd => CW.out x (.agg #[.int .i64 x.1, .slice A1 (Sc.kinds x).length c1, .slice A2 x.2.2.1.length c2, .slice A3 x.2.2.2.length c3]) odd W2 ⟨_, rfl, HX.out⟩ HSX.out (T2.out.fact (.tail _ (.tail _ (.tail _ (.tail _ (.head _)))))))
  have y := cells4 (T2.out.blk (.head _))
  obtain ⟨y0, y1, y2, y3⟩ := y
  go_upto_region 3 with (go_at_call 10; refine (C2.out _).mono ?_; rintro e w3 ⟨wl, v3, rfl, hrw, hlw, hbw, hb⟩; obtain ⟨Aw, cw, rfl, _, _, hsw⟩ := sl_of hrw; have T4 := Lib.hid ((T2.out.below hb).add (keeps_sl Aw wl) hsw); have HWL := Lib.hid hlw; have HWB := Lib.hid hbw; clear hrw hlw hbw hb hsw)
  clear T2 C2 HX y0 y1 y2 y3
  obtain ⟨y0, y1, y2, y3⟩ := cells4 (T4.out.blk (.tail _ (.head _)))
  have C3 := Lib.hid (CP.out x (.agg #[.int .i64 x.1, .slice A1 (Sc.kinds x).length c1, .slice A2 x.2.2.1.length c2, .slice A3 x.2.2.2.length c3]) w3 ⟨_, rfl, T4.out.fact (.tail _ (.tail _ (.head _)))⟩ HSX.out (T4.out.fact (.tail _ (.tail _ (.tail _ (.tail _ (.head _)))))))
  go_upto_region 4 with (go_at_call 11; ((with_reducible refine (C3.out).mono ?_)); rintro e w5 ⟨p, vp, rfl, hrp, hfp, hb⟩; obtain ⟨Aq, cq, rfl, _, _, hsq⟩ := sl_of hrp; have T5 := Lib.hid ((T4.out.below hb).add (keeps_sl Aq p) hsq); have HFP := Lib.hid hfp; have HSQ := Lib.hid hsq; clear hrp hfp hb hsq)
  clear T4 C3 y0 y1 y2 y3
  have hpl := HFP.out.len
  go_upto_region 5 with (go_at_call 12; ((with_reducible refine (CB.out p Aq cq _ HSQ.out (by omega)).mono ?_)); rintro e w6 ⟨q1, v6, rfl, hr6, hl6, hb, -⟩; obtain ⟨Ab, cb1, rfl, _, _, hsb⟩ := sl_of hr6; have T6 := Lib.hid ((T5.out.below hb).add (keeps_sl Ab q1) hsb); have HLB := Lib.hid hl6; clear hr6 hl6 hb hsb)
  have T7 := Lib.hid (T6.out.made #[.slice Aq p.length cq, .slice Ab q1.length cb1] 32 rfl)
  generalize hW : w6.alloc _ = W7 at T7 ⊢
  generalize w6.heap.size = gl at T7 ⊢
  clear hW T5 T6 HSQ
  have HBL := Lib.hid (T7.out.blk (.head _))
  have HSB := Lib.hid (T7.out.fact (.tail _ (.head _)))
  have HSQ := Lib.hid (T7.out.fact (.tail _ (.tail _ (.head _))))
  have HSW := Lib.hid (T7.out.fact (.tail _ (.tail _ (.tail _ (.head _)))))
  have HBX := Lib.hid (T7.out.blk (.tail _ (.tail _ (.tail _ (.tail _ (.head _))))))
  have HMX := Lib.hid (T7.out.fact (.tail _ (.tail _ (.tail _ (.tail _ (.tail _ (.head _)))))))
  have HB7 := Lib.hid T7.out.bl
  clear T7
  have q4 := (Blk.new W7 3 #[.int .i64 (-1), .int .i64 0, .int .i64 1000001, .int .i64 most]).cell z4
  rw [HNV.out] at q4
  go_upto_region 6 with (first | (go_at_call 13; ((with_reducible refine (CA40.out _).mono ?_)); rintro e w8 ⟨rfl, rfl⟩) | (go_at_call 13; ((with_reducible refine (CA4.out _).mono ?_)); rintro e w8 ⟨rfl, rfl⟩))
  have T8 := Lib.hid (((held0 W7 [] (fun _ h => by cases h)).made #[.int .i64 (-1), .int .i64 0, .int .i64 1000001, .int .i64 most] 3 rfl).made #[.int .i64 300, .int .i64 z40, .int .i64 nv] 3 (N := W7.heap.size + 1) (by simp))
  generalize hW : (W7.alloc _).alloc _ = W8 at T8 ⊢
  generalize W7.heap.size + 1 = gn at T8 ⊢
  have HBN := Lib.hid (T8.out.blk (.head _))
  have HB8 := Lib.hid T8.out.bl
  clear hW T8 q4 HNV CA4 CA40 h14
  have hw1000 : wl.length ≤ 1000000 := by have := HWL.out; have := HSX.out.bd'.2.1; omega
  have hok : WorOk (shp (Sc.kinds x)) wl := ⟨by have := HWL.out; have := shp_len (Sc.kinds x); omega, WorB.ok HWB.out (by have := HWL.out; have := shp_len (Sc.kinds x); omega)⟩
  have HPS : Hid (∀ j, j < 2 → ∃ (q : List Vm.Ins) (Bq : Option Addr) (cb : Nat), W7.cell? ⟨gl, j, none⟩ = some (.slice Bq q.length cb) ∧ SlAt [] W7 Bq q ∧ q.length ≤ 1000) := by
    unfold Hid
    intro j hj
    rcases (show j = 0 ∨ j = 1 by omega) with rfl | rfl
    · exact ⟨p, Aq, cq, HBL.out.cell 0, HSQ.out, by omega⟩
    · exact ⟨q1, Ab, cb1, HBL.out.cell 1, HSB.out, by have := HLB.out; omega⟩
  have CR := Lib.hid (fun (q : List Vm.Ins) (hq : q.length ≤ 1000) (A : Option Addr) (c : Nat) w2 (hb : Below W7.heap.size W7 w2) (hs : SlAt [] w2 A q) (N : Int) {a b e : Int} (hr : Vm.run (shp (Sc.kinds x)) q wl N = (a, b, e)) => run_env (us := #[.int .i64 x.1, .slice A1 (Sc.kinds x).length c1, .slice A2 x.2.2.1.length c2, .slice A3 x.2.2.2.length c3]) (Mem.keep HMX.out (Chg.of_below (G := []) hb)) hs (by omega) (HSW.out.keep (Chg.of_below hb)) hw1000 N hr c cw)
  have CRR := Lib.hid (fun (q : List Vm.Ins) (hq : q.length ≤ 1000) (A : Option Addr) (c : Nat) (hs : SlAt [] W7 A q) (N : Int) {a b e : Int} (hr : Vm.run (shp (Sc.kinds x)) q wl N = (a, b, e)) => rrun_env (us := #[.int .i64 x.1, .slice A1 (Sc.kinds x).length c1, .slice A2 x.2.2.1.length c2, .slice A3 x.2.2.2.length c3]) HMX.out hs (by omega) HSW.out hw1000 hok N hr c cw)
  have HC := Lib.hid (fun W (hb : Below W7.heap.size W7 W) => cells4 (HBX.out.below hb HBX.out.lt))
  clear hw1000 hok
  go_wp2_with fail
  go_loopg [20] 2 (fun r i wr => ∃ j : Nat, j + r = 2 ∧ i = .int .i64 j ∧ Below W8.heap.size W8 wr)
  case atStart => exact ⟨0, by omega, rfl, Below.refl _ _⟩
  case round =>
    obtain ⟨j, hj, rfl, hbl⟩ := hrel
    obtain ⟨wo, rfl⟩ : ∃ wo : World, wo = wr := ⟨_, rfl⟩
    have HBO1 := Lib.hid hbl
    clear hbl
    obtain ⟨gk2, rfl⟩ : ∃ g, g = gk := ⟨_, rfl⟩
    by_cases hlt : j < 2
    · have k1 : (j : Int) < 2 := by omega
      have k0 : (0 : Int) ≤ (j : Int) := by omega
      obtain ⟨q, Bq, cb, hcell, hslq, hlq⟩ := HPS.out j hlt
      have HQC := Lib.hid hcell
      have HSL := Lib.hid hslq
      have HLQ := Lib.hid hlq
      clear hcell hslq hlq
      go_wp2_with fail
      go_loopg [21] 3 (fun r n wr => ∃ i : Nat, i + r = 3 ∧ n = .int .i64 i ∧ Below W8.heap.size W8 wr)
      case atStart => exact ⟨0, by omega, rfl, HBO1.out⟩
      case round =>
        obtain ⟨i, hi, rfl, hbl⟩ := hrel
        obtain ⟨wi, rfl⟩ : ∃ wi : World, wi = wr := ⟨_, rfl⟩
        have HBI := Lib.hid hbl
        clear hbl
        by_cases hlt2 : i < 3
        · have k3 : (i : Int) < 3 := by omega
          have k2 : (0 : Int) ≤ (i : Int) := by omega
          obtain ⟨N0, hN0⟩ := three_at z40 nv i hlt2
          have x0 := (HBN.out.below HBI.out HBN.out.lt).cell i
          rw [hN0] at x0
          clear hN0
          go_upto_region 13 with fail
          go_cut [75] from 62 to 117 (fun v w' => ∃ b : Bool, v = .bool b ∧ w' = wi)
          case first =>
            clear x0
            by_cases g1 : 2000 < N0
            · by_cases g2 : N0 ≤ 1000000
              · go_wp2_with fail
                go_meet
                case rel => exact ⟨_, rfl, rfl⟩
              · go_wp2_with fail
                go_meet
                case rel => exact ⟨_, rfl, rfl⟩
            · go_wp2_with fail
              go_meet
              case rel => exact ⟨_, rfl, rfl⟩
          case rest =>
           obtain ⟨b, rfl, hwc⟩ := hcut
           subst hwc
           clear x0
           go_upto_if 75 with fail
           go_cut [22] from 62 to 117 (fun v w' => ∃ N : Int, v = .int .i64 N ∧ w' = wc)
           case first =>
             cases b
             · go_wp2_with fail
               go_meet
               case rel => exact ⟨_, rfl, rfl⟩
             · go_wp2_with fail
               go_meet
               case rel => exact ⟨_, rfl, rfl⟩
           case rest =>
            obtain ⟨N, rfl, hwc⟩ := hcut
            subst hwc
            obtain ⟨wi, rfl⟩ : ∃ z : World, z = wc := ⟨_, rfl⟩
            obtain ⟨⟨rc, rt, re⟩, hr⟩ : ∃ z, Vm.run (shp (Sc.kinds x)) q wl N = z := ⟨_, rfl⟩
            have HBI7 := Lib.hid (Below.then_ HB8.out HBI.out)
            have CR15 := Lib.hid (fun (A : Option Addr) (c : Nat) w2 (hb : Below wi.heap.size wi w2) (hs : SlAt [] w2 A q) => CR.out q HLQ.out A c w2 (Below.then_ HBI7.out hb) hs N hr)
            have CR16 := Lib.hid (CRR.out q HLQ.out Bq cb HSL.out N hr)
            have CO15 := Lib.hid (fun W (hb : Below wi.heap.size wi W) => CO.out q Bq cb W (HSL.out.keep (Chg.of_below (Below.then_ HBI7.out hb))) HLQ.out)
            have E15 := Lib.hid (fun W (hb : Below wi.heap.size wi W) => let h := HC.out W (Below.then_ HBI7.out hb); (⟨h.1, h.2.1, h.2.2.1, h.2.2.2, ((Below.then_ HBI7.out hb).cell (World.block_lt_of_cell? _ _ HQC.out)).trans HQC.out⟩ : (fun w' => w'.cell? ⟨gx, 0, none⟩ = some (.int .i64 x.1) ∧ w'.cell? ⟨gx, 1, none⟩ = some (.slice A1 (Sc.kinds x).length c1) ∧ w'.cell? ⟨gx, 2, none⟩ = some (.slice A2 x.2.2.1.length c2) ∧ w'.cell? ⟨gx, 3, none⟩ = some (.slice A3 x.2.2.2.length c3) ∧ w'.cell? ⟨gl, j, none⟩ = some (.slice Bq q.length cb)) W))
            clear hr
            go_upto_region 15 with fail
            go_cut [23, 24] from 62 to 117 (fun a b w' => ∃ g, a = .pointer (some ⟨g, 0, none⟩) ∧ b = .int .i64 re ∧ ResBox wi w' g 38 (.int .i64 rc) (.int .i64 rt))
            case first =>
              rename_i hK
              obtain ⟨y0, y1, y2, y3, y4⟩ := E15.out _ (below_drew _)
              go_region_held3 (fun w' => w'.cell? ⟨gx, 0, none⟩ = some (.int .i64 x.1) ∧ w'.cell? ⟨gx, 1, none⟩ = some (.slice A1 (Sc.kinds x).length c1) ∧ w'.cell? ⟨gx, 2, none⟩ = some (.slice A2 x.2.2.1.length c2) ∧ w'.cell? ⟨gx, 3, none⟩ = some (.slice A3 x.2.2.2.length c3) ∧ w'.cell? ⟨gl, j, none⟩ = some (.slice Bq q.length cb)) (first | exact E15.out _ (below_drew _) | exact E15.out _ (below_drew_alloc _ _) | exact E15.out _ (below_alloc_drew _ _) | exact E15.out _ HBO.out | exact HZ1.out _ | exact E15.out _ HB9.out | exact HQ1.out _ | exact HQ3.out _ _ | exact HQ4.out _ _) (first | (go_at_call 15; ((with_reducible refine (CO15.out _ (by first | exact below_drew _ | exact below_drew_alloc _ _ | exact below_alloc_drew _ _)).mono ?_)); rintro e w2o ⟨v2, rfl, hr2, hbo⟩; obtain ⟨Ao, co, rfl, _, _, hso⟩ := sl_of hr2; have HBO := Lib.hid (Below.then_ (a := wi) (by first | exact below_drew _ | exact below_drew_alloc _ _ | exact below_alloc_drew _ _) hbo); have HSO := Lib.hid hso; obtain ⟨z0, z1, z2, z3, z4⟩ := E15.out _ HBO.out; have HZ1 := Lib.hid (fun o => E15.out _ (Below.then_ HBO.out (below_alloc w2o o))); have k0 := hbo.cell (p := ⟨wi.heap.size, 0, none⟩); (try simp at k0); have k1 := hbo.cell (p := ⟨wi.heap.size, 1, none⟩); (try simp at k1); have k2 := hbo.frozen (p := ⟨wi.heap.size, 0, none⟩); (try simp at k2); have k3 := hbo.frozen (p := ⟨wi.heap.size, 1, none⟩); (try simp at k3); have hz := hbo.size; (try simp at hz); have HBP := Lib.hid hbo; clear hr2 hbo hso) | (go_at_call 14; ((with_reducible refine (CR15.out Ao co w2o HBO.out HSO.out _ (by first | exact Below.refl _ _ | exact below_alloc _ _)).mono ?_)); rintro e w9 ⟨rfl, hb⟩; have HB9 := Lib.hid (Below.then_ HBO.out (Below.then_ (by first | exact Below.refl _ _ | exact below_alloc _ _) hb)); obtain ⟨q0, q1, q2, q3, q4⟩ := E15.out _ HB9.out; have HQ1 := Lib.hid (fun o => E15.out _ (Below.then_ HB9.out (below_alloc w9 o))); have p0 := hb.cell (p := ⟨wi.heap.size, 0, none⟩); (try simp [Nat.lt_of_succ_le hz, k0] at p0); have p1 := hb.cell (p := ⟨wi.heap.size, 1, none⟩); (try simp [Nat.lt_of_succ_le hz, k1] at p1); have p2 := hb.frozen (p := ⟨wi.heap.size, 0, none⟩); (try simp [Nat.lt_of_succ_le hz, k2] at p2); have p3 := hb.frozen (p := ⟨wi.heap.size, 1, none⟩); (try simp [Nat.lt_of_succ_le hz, k3] at p3); have m0 := hb.cell (p := ⟨w2o.heap.size, 0, none⟩); (try simp at m0); have m1 := hb.cell (p := ⟨w2o.heap.size, 1, none⟩); (try simp at m1); have m2 := hb.frozen (p := ⟨w2o.heap.size, 0, none⟩); (try simp at m2); have m3 := hb.frozen (p := ⟨w2o.heap.size, 1, none⟩); (try simp at m3); have HB := Lib.hid hb; have HQ3 := Lib.hid (fun u v => E15.out _ ((HB9.out.setCell (p := ⟨wi.heap.size, 0, none⟩) (Nat.le_refl _) u).setCell (p := ⟨wi.heap.size, 1, none⟩) (Nat.le_refl _) v)); have HQ4 := Lib.hid (fun u v => E15.out _ ((HB9.out.setCell (p := ⟨w2o.heap.size, 0, none⟩) HBO.out.size u).setCell (p := ⟨w2o.heap.size, 1, none⟩) HBO.out.size v)); clear hb))
              all_goals
                go_wp2_with fail
                go_meet
                case rel => first | exact ⟨_, rfl, rfl, res_new _ HB9.out _ _⟩ | exact ⟨_, rfl, rfl, res_fill2 HBO.out HB.out _ _⟩ | exact ⟨_, rfl, rfl, res_fill (Below.then_ HBP.out HB.out) _ _⟩
            case rest =>
              obtain ⟨g23, rfl, rfl, hrb⟩ := hcut
              have HBW := Lib.hid hrb.1
              have HB16 := Lib.hid (Below.then_ HBI7.out hrb.1)
              have HBI16 := Lib.hid (Below.then_ HBI.out hrb.1)
              have HBR := Lib.hid hrb.2.2
              clear hrb CR15 CO15
              obtain ⟨w16, rfl⟩ : ∃ z : World, z = wc := ⟨_, rfl⟩
              have E16 := Lib.hid (fun W (hb : Below w16.heap.size w16 W) => E15.out W (Below.then_ HBW.out hb))
              go_upto_region 16 with fail
              go_cut [25, 26] from 62 to 117 (fun a b w' => ∃ g, a = .pointer (some ⟨g, 0, none⟩) ∧ b = .int .i64 re ∧ ResBox w16 w' g 47 (.int .i64 rc) (.int .i64 rt))
              case first =>
                rename_i hK
                obtain ⟨y0, y1, y2, y3, y4⟩ := E16.out _ (below_drew _)
                go_region_held3 (fun w' => w'.cell? ⟨gx, 0, none⟩ = some (.int .i64 x.1) ∧ w'.cell? ⟨gx, 1, none⟩ = some (.slice A1 (Sc.kinds x).length c1) ∧ w'.cell? ⟨gx, 2, none⟩ = some (.slice A2 x.2.2.1.length c2) ∧ w'.cell? ⟨gx, 3, none⟩ = some (.slice A3 x.2.2.2.length c3) ∧ w'.cell? ⟨gl, j, none⟩ = some (.slice Bq q.length cb)) (first | exact E16.out _ (below_drew _) | exact E16.out _ (below_drew_alloc _ _) | exact E16.out _ (below_alloc_drew _ _) | exact E16.out _ HB9.out | exact HQ1.out _ | exact HQ3.out _ _) (first | (go_at_call 16; ((with_reducible refine (CR16.out _ (Below.then_ HB16.out (by first | exact below_drew _ | exact below_drew_alloc _ _ | exact below_alloc_drew _ _))).mono ?_)); rintro e w9 ⟨rfl, hb⟩; have HB9 := Lib.hid (Below.then_ (a := w16) (by first | exact below_drew _ | exact below_drew_alloc _ _ | exact below_alloc_drew _ _) hb); obtain ⟨q0, q1, q2, q3, q4⟩ := E16.out _ HB9.out; have HQ1 := Lib.hid (fun o => E16.out _ (Below.then_ HB9.out (below_alloc w9 o))); have p0 := hb.cell (p := ⟨w16.heap.size, 0, none⟩); (try simp at p0); have p1 := hb.cell (p := ⟨w16.heap.size, 1, none⟩); (try simp at p1); have p2 := hb.frozen (p := ⟨w16.heap.size, 0, none⟩); (try simp at p2); have p3 := hb.frozen (p := ⟨w16.heap.size, 1, none⟩); (try simp at p3); have HB := Lib.hid hb; have HQ3 := Lib.hid (fun u v => E16.out _ ((HB9.out.setCell (p := ⟨w16.heap.size, 0, none⟩) (Nat.le_refl _) u).setCell (p := ⟨w16.heap.size, 1, none⟩) (Nat.le_refl _) v)); clear hb))
                all_goals
                  go_wp2_with fail
                  go_meet
                  case rel => first | exact ⟨_, rfl, rfl, res_fill HB.out _ _⟩ | exact ⟨_, rfl, rfl, res_new _ (Below.then_ (below_drew _) HB.out) _ _⟩
              case rest =>
                obtain ⟨g25, rfl, rfl, hrb⟩ := hcut
                obtain ⟨r0, r1⟩ := cells2' (HBR.out.below hrb.1 HBR.out.lt)
                obtain ⟨s0, s1⟩ := cells2' hrb.2.2
                have HB17 := Lib.hid (Below.then_ HBI16.out hrb.1)
                clear hrb E15 E16 CR16
                go_wp2_with fail
                go_roundg (gk - 1)
                case measure => omega
                case rel => exact ⟨i + 1, by omega, by go_num, HB17.out⟩
        · obtain rfl : i = 3 := by omega
          go_wp2_with fail
          go_roundg (gk2 - 1)
          case measure => omega
          case rel => exact ⟨j + 1, by omega, by go_num, HBI.out⟩
    · obtain rfl : j = 2 := by omega
      have HBO7 := Lib.hid (Below.then_ HB8.out HBO1.out)
      have HBF := Lib.hid (Below.then_ HB7.out HBO7.out)
      have hp1000 : p.length ≤ 9223372036854775807 := by omega
      obtain ⟨⟨ra, rb, rz⟩, hr0⟩ : ∃ z, Vm.run (shp (Sc.kinds noX)) p [] 10 = z := ⟨_, rfl⟩
      have HR0 := Lib.hid hr0
      have CX := Lib.hid (fun (A : Option Addr) (c : Nat) W (hs : SlAt [] W A p) => (show Calls Tryd.prog 14 #[.agg #[.int .i64 0, .slice none 0 0, .slice none 0 0, .slice none 0 0], .slice A p.length c, .iface 46 (.agg #[.slice none 0 0]), .int .i64 10] W _ from run_any noX _ p A c [] none 0 10 W noSch hs hp1000 .nil (by decide)).mono (R' := fun e w' => e = .returned (.tuple #[.agg #[.int .i64 ra, .int .i64 rb], .int .i64 rz]) ∧ Below W.heap.size W w') fun e w' ⟨h, hb⟩ => ⟨by rw [HR0.out] at h; exact h, hb⟩)
      have CY := Lib.hid (fun W (hb : Below W7.heap.size W7 W) => (show Calls Tryd.prog 16 #[.agg #[.int .i64 0, .slice none 0 0, .slice none 0 0, .slice none 0 0], .slice Aq p.length cq, .slice none 0 0, .int .i64 10] W _ from rRun_any noX _ p Aq cq [] none 0 10 W noSch (HSQ.out.keep (Chg.of_below hb)) hp1000 .nil (by decide) ⟨Nat.le_refl _, fun k hk => absurd hk (Nat.not_lt_zero _)⟩).mono (R' := fun e w' => e = .returned (.tuple #[.agg #[.int .i64 ra, .int .i64 rb], .int .i64 rz]) ∧ Below W.heap.size W w') fun e w' ⟨h, hb⟩ => ⟨by rw [HR0.out] at h; exact h, hb⟩)
      have COX := Lib.hid (CO.out p Aq cq wo (HSQ.out.keep (Chg.of_below HBO7.out)) (by omega))
      clear hr0 HR0 hp1000
      go_wp2_with (first | (go_at_call 15; ((with_reducible refine (COX.out).mono ?_)); rintro e w10 ⟨v10, rfl, hr10, hb⟩; obtain ⟨Ax, cx, rfl, _, _, hsx⟩ := sl_of hr10; have HSX10 := Lib.hid hsx; have HB10 := Lib.hid hb; clear hr10 hb hsx) | (go_at_call 14; ((with_reducible refine (CX.out _ _ _ HSX10.out).mono ?_)); rintro e w11 ⟨rfl, hb⟩; have HB11 := Lib.hid (Below.then_ (Below.then_ HB10.out hb) (below_alloc _ (.cells #[.int .i64 ra, .int .i64 rb] 38))); clear hb) | (go_at_call 16; ((with_reducible refine (CY.out _ (Below.then_ HBO7.out HB11.out)).mono ?_)); rintro e w12 ⟨rfl, hb⟩; have HB12 := Lib.hid (Below.then_ HBF.out (Below.then_ (Below.then_ HB11.out hb) (below_alloc _ (.cells #[.int .i64 ra, .int .i64 rb] 47)))); clear hb) | (go_at_call 17; ((with_reducible refine (CL.out _).mono ?_)); rintro e w13 ⟨rfl, hb⟩; have HB13 := Lib.hid (Below.then_ HB12.out hb); clear hb))
      go_ret
      exact ⟨rfl, HB13.out⟩
end Go.Proofs.YtdpcdocaahjeoaaDoor
