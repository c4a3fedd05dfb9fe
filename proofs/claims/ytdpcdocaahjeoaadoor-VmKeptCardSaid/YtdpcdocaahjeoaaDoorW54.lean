/- VmKept: the law's walk. -/
import Derived.Test.YtdpcdocaahjeoaaDoorVmL2
import Derived.Test.YtdpcdocaahjeoaaDoorW54a
import Derived.WalkLawsBesides
import Derived.Laws.StructEq
import Derived.Deep.RegionHeld3
namespace Go.Proofs.YtdpcdocaahjeoaaDoor
open Go Go.RowKit
set_option maxRecDepth 100000 in
set_option maxHeartbeats 32000000 in
theorem law_kept (l m k : List Int) (A B C : Option Addr) (c d f : Nat) (by_ : Int) (w : World) (hl : SlAt [] w A l) (hm : SlAt [] w B m) (hk : SlAt [] w C k) (hc : l.length ≤ c) (hc2 : c ≤ 9223372036854775807) (hd : m.length ≤ d) (hd2 : d ≤ 9223372036854775807) (hf : k.length ≤ f) (hf2 : f ≤ 9223372036854775807) (h1 : inI by_) :
    Calls Tryd.prog 5 #[.slice A l.length c, .slice B m.length d, .slice C k.length f, .int .i64 by_] w fun e w' => e = .returned (.bool true) ∧ Below w.heap.size w w' := by
  have CS := Lib.hid (fun W (h : SlAt [] W A l) => schemaU_any l A c W h hc hc2)
  have CW := Lib.hid (fun (x : Sch) (v : Value) W (hx : SchV x W v) (hs : Sg.Schema x) (h : SlAt [] W C k) => world_any x v k C f false W hx h (by omega) (by have := hs.bd'.2.1; omega) (fun kn hkn => by have := (hs.bd'.2.2 kn hkn).2; omega))
  have CP := Lib.hid (fun (x : Sch) (v : Value) W (hx : SchV x W v) (hk : Sg.Schema x) (h : SlAt [] W B m) => program_any x v m B d W hx h (by omega) hk.bd'.1 (by have := hk.bd'.2.1; omega) hk.bd'.2.2)
  have CO := Lib.hid (fun (p : List Vm.Ins) A c W (h : SlAt [] W A p) (hp : p.length ≤ 1000) => own_any p A c W h (by omega))
  have CL := Lib.hid lives_any
  have HBY := Lib.hid h1
  have T0 := Lib.hid ((((held0 w [] (fun _ h => by cases h)).add (keeps_sl C k) hk).add (keeps_sl B m) hm).add (keeps_sl A l) hl)
  obtain ⟨n1, hn1⟩ : ∃ n, l.length = n := ⟨_, rfl⟩
  obtain ⟨n2, hn2⟩ : ∃ n, m.length = n := ⟨_, rfl⟩
  obtain ⟨n3, hn3⟩ : ∃ n, k.length = n := ⟨_, rfl⟩
  rw [hn1] at CS
  rw [hn2] at CP
  rw [hn3] at CW
  rw [hn1, hn2, hn3]
  clear hl hm hk hc hc2 hd hd2 hf hf2 h1 hn1 hn2 hn3
  unfold SchemaU at CS
  unfold ProgP at CP
  unfold WorldP at CW
  unfold CopyP at CO
  go_enter Tryd.func5, Tryd.ntmps5
  go_upto_region 2 with (go_at_call 9; refine (CS.out _ (T0.out.fact (.head _))).mono ?_; rintro e w1 ⟨x, A1, c1, A2, c2, A3, c3, rfl, hsx, hu, hb⟩; have T1 := Lib.hid ((T0.out.below hb).add (keeps_rep x _) hu); have HSX := Lib.hid hsx; clear hsx hu hb)
  have T2 := Lib.hid (T1.out.made #[.int .i64 x.1, .slice A1 (Sc.kinds x).length c1, .slice A2 x.2.2.1.length c2, .slice A3 x.2.2.2.length c3] 27 rfl)
  generalize hW : w1.alloc _ = W2 at T2 ⊢
  generalize w1.heap.size = gx at T2 ⊢
  clear hW T1 T0
  have HX := Lib.hid (T2.out.fact (.tail _ (.head _)))
  have C2 := Lib.hid (CW.out x (.agg #[.int .i64 x.1, .slice A1 (Sc.kinds x).length c1, .slice A2 x.2.2.1.length c2, .slice A3 x.2.2.2.length c3]) W2 ⟨_, rfl, HX.out⟩ HSX.out (T2.out.fact (.tail _ (.tail _ (.tail _ (.tail _ (.head _)))))))
  have y := cells4 (T2.out.blk (.head _))
  obtain ⟨y0, y1, y2, y3⟩ := y
  go_upto_region 3 with (go_at_call 10; ((with_reducible refine (C2.out).mono ?_)); rintro e w3 ⟨wl, v3, rfl, hrw, hlw, hbw, hb⟩; obtain ⟨Aw, cw, rfl, _, _, hsw⟩ := sl_of hrw; have T4 := Lib.hid ((T2.out.below hb).add (keeps_sl Aw wl) hsw); have HWL := Lib.hid hlw; have HWB := Lib.hid hbw; clear hrw hlw hbw hb hsw)
  clear T2 C2 HX y0 y1 y2 y3
  obtain ⟨y0, y1, y2, y3⟩ := cells4 (T4.out.blk (.tail _ (.head _)))
  have C3 := Lib.hid (CP.out x (.agg #[.int .i64 x.1, .slice A1 (Sc.kinds x).length c1, .slice A2 x.2.2.1.length c2, .slice A3 x.2.2.2.length c3]) w3 ⟨_, rfl, T4.out.fact (.tail _ (.tail _ (.head _)))⟩ HSX.out (T4.out.fact (.tail _ (.tail _ (.tail _ (.tail _ (.head _)))))))
  go_upto_region 4 with (go_at_call 11; ((with_reducible refine (C3.out).mono ?_)); rintro e w5 ⟨p, vp, rfl, hrp, hfp, hb⟩; obtain ⟨Aq, cq, rfl, _, _, hsq⟩ := sl_of hrp; have T5 := Lib.hid (T4.out.below hb); have HFP := Lib.hid hfp; have HSQ := Lib.hid hsq; clear hrp hfp hb hsq)
  have HSW := Lib.hid (T5.out.fact (.head _))
  have HBX := Lib.hid (T5.out.blk (.tail _ (.head _)))
  have HMX := Lib.hid (T5.out.fact (.tail _ (.tail _ (.head _))))
  have HB5 := Lib.hid T5.out.bl
  clear T5 T4 C3 y0 y1 y2 y3 CS CW CP
  have HC := Lib.hid (fun W (hb : Below w5.heap.size w5 W) => cells4 (HBX.out.below hb HBX.out.lt))
  go_upto_block 0 with fail
  go_cut [12] from 13 (fun u12 w' => ∃ (ot : Wor) (A12 : Option Addr) (c12 : Nat), u12 = .slice A12 wl.length c12 ∧ ot.length = wl.length ∧ (∀ j, j < wl.length → Vm.KndK p j (wl.getD j []) (ot.getD j [])) ∧ SlAt [] w' A12 ot ∧ Below w5.heap.size w5 w')
  case first =>
    rename_i J_ K_ hJ_ hM_
    exact kept_loop (by kernel_rfl) HBY HSX HWL HWB HFP HSQ HSW HBX HMX hJ_ hM_
  case rest =>
    obtain ⟨ot, A12, c12, rfl, hol, hok, hso, hba⟩ := hcut
    obtain ⟨wa, rfl⟩ : ∃ z : World, z = wc := ⟨_, rfl⟩
    have HOL := Lib.hid hol
    have HOK := Lib.hid hok
    have HSO := Lib.hid hso
    have HBA := Lib.hid hba
    have hnk := HSX.out.bd'.2.1
    have hnw : wl.length ≤ 3 := by have := HWL.out; omega
    have hnp : p.length ≤ 20 := HFP.out.len
    have HSH := Lib.hid (shp_len (Sc.kinds x))
    clear hol hok hso hba
    have hrun := Vm.run_kept (w := wl) (w' := ot) HFP.out (by have := HWL.out; have := HSH.out; omega) HOK.out 400
    obtain ⟨⟨rc, rt, re⟩, hr⟩ : ∃ z, Vm.run (shp (Sc.kinds x)) p wl 400 = z := ⟨_, rfl⟩
    have hre := Vm.run_err HFP.out (by omega) (by omega) (by omega) hr
    rw [hr] at hrun
    have HRE := Lib.hid hre
    have hlo : ot.length ≤ 1000000 := by rw [HOL.out]; omega
    have hlw : wl.length ≤ 1000000 := by omega
    have hlp : p.length ≤ 1000000 := by omega
    have CR29 := Lib.hid (fun (A : Option Addr) (c : Nat) w2 (hb : Below wa.heap.size wa w2) (hs : SlAt [] w2 A p) => run_env (us := #[.int .i64 x.1, .slice A1 (Sc.kinds x).length c1, .slice A2 x.2.2.1.length c2, .slice A3 x.2.2.2.length c3]) (Mem.keep HMX.out (Chg.of_below (G := []) (Below.then_ HBA.out hb))) hs hlp (HSW.out.keep (Chg.of_below (Below.then_ HBA.out hb))) hlw 400 hr c cw)
    have CR30 := Lib.hid (fun (A : Option Addr) (c : Nat) w2 (hb : Below wa.heap.size wa w2) (hs : SlAt [] w2 A p) => run_env (us := #[.int .i64 x.1, .slice A1 (Sc.kinds x).length c1, .slice A2 x.2.2.1.length c2, .slice A3 x.2.2.2.length c3]) (Mem.keep HMX.out (Chg.of_below (G := []) (Below.then_ HBA.out hb))) hs hlp (HSO.out.keep (Chg.of_below hb)) hlo 400 hrun.symm c c12)
    rw [HOL.out] at CR30
    have CO29 := Lib.hid (fun W (hb : Below wa.heap.size wa W) => CO.out p Aq cq W (HSQ.out.keep (Chg.of_below (Below.then_ HBA.out hb))) (by omega))
    have E29 := Lib.hid (fun W (hb : Below wa.heap.size wa W) => (HC.out W (Below.then_ HBA.out hb) : (fun w' => w'.cell? ⟨gx, 0, none⟩ = some (.int .i64 x.1) ∧ w'.cell? ⟨gx, 1, none⟩ = some (.slice A1 (Sc.kinds x).length c1) ∧ w'.cell? ⟨gx, 2, none⟩ = some (.slice A2 x.2.2.1.length c2) ∧ w'.cell? ⟨gx, 3, none⟩ = some (.slice A3 x.2.2.2.length c3)) W))
    clear hrun hr hre hlo hlw hlp
    go_upto_region 29 with fail
    go_cut [21, 22] from 133 to 142 (fun a b w' => ∃ g, a = .pointer (some ⟨g, 0, none⟩) ∧ b = .int .i64 re ∧ ResBox wa w' g 38 (.int .i64 rc) (.int .i64 rt))
    case first =>
      rename_i hK
      obtain ⟨y0, y1, y2, y3⟩ := E29.out _ (below_drew _)
      go_region_held3 (fun w' => w'.cell? ⟨gx, 0, none⟩ = some (.int .i64 x.1) ∧ w'.cell? ⟨gx, 1, none⟩ = some (.slice A1 (Sc.kinds x).length c1) ∧ w'.cell? ⟨gx, 2, none⟩ = some (.slice A2 x.2.2.1.length c2) ∧ w'.cell? ⟨gx, 3, none⟩ = some (.slice A3 x.2.2.2.length c3)) (first | exact E29.out _ (below_drew _) | exact E29.out _ (below_drew_alloc _ _) | exact E29.out _ (below_alloc_drew _ _) | exact E29.out _ HBO.out | exact HZ1.out _ | exact E29.out _ HB9.out | exact HQ1.out _ | exact HQ3.out _ _ | exact HQ4.out _ _) (first | (go_at_call 15; ((with_reducible refine (CO29.out _ (by first | exact below_drew _ | exact below_drew_alloc _ _ | exact below_alloc_drew _ _)).mono ?_)); rintro e w2o ⟨v2, rfl, hr2, hbo⟩; obtain ⟨Ao, co, rfl, _, _, hso⟩ := sl_of hr2; have HBO := Lib.hid (Below.then_ (a := wa) (by first | exact below_drew _ | exact below_drew_alloc _ _ | exact below_alloc_drew _ _) hbo); have HSO := Lib.hid hso; obtain ⟨z0, z1, z2, z3⟩ := E29.out _ HBO.out; have HZ1 := Lib.hid (fun o => E29.out _ (Below.then_ HBO.out (below_alloc w2o o))); have k0 := hbo.cell (p := ⟨wa.heap.size, 0, none⟩); (try simp at k0); have k1 := hbo.cell (p := ⟨wa.heap.size, 1, none⟩); (try simp at k1); have k2 := hbo.frozen (p := ⟨wa.heap.size, 0, none⟩); (try simp at k2); have k3 := hbo.frozen (p := ⟨wa.heap.size, 1, none⟩); (try simp at k3); have hz := hbo.size; (try simp at hz); have HBP := Lib.hid hbo; clear hr2 hbo hso) | (go_at_call 14; ((with_reducible refine (CR29.out Ao co w2o HBO.out HSO.out _ (by first | exact Below.refl _ _ | exact below_alloc _ _)).mono ?_)); rintro e w9 ⟨rfl, hb⟩; have HB9 := Lib.hid (Below.then_ HBO.out (Below.then_ (by first | exact Below.refl _ _ | exact below_alloc _ _) hb)); obtain ⟨q0, q1, q2, q3⟩ := E29.out _ HB9.out; have HQ1 := Lib.hid (fun o => E29.out _ (Below.then_ HB9.out (below_alloc w9 o))); have p0 := hb.cell (p := ⟨wa.heap.size, 0, none⟩); (try simp [Nat.lt_of_succ_le hz, k0] at p0); have p1 := hb.cell (p := ⟨wa.heap.size, 1, none⟩); (try simp [Nat.lt_of_succ_le hz, k1] at p1); have p2 := hb.frozen (p := ⟨wa.heap.size, 0, none⟩); (try simp [Nat.lt_of_succ_le hz, k2] at p2); have p3 := hb.frozen (p := ⟨wa.heap.size, 1, none⟩); (try simp [Nat.lt_of_succ_le hz, k3] at p3); have m0 := hb.cell (p := ⟨w2o.heap.size, 0, none⟩); (try simp at m0); have m1 := hb.cell (p := ⟨w2o.heap.size, 1, none⟩); (try simp at m1); have m2 := hb.frozen (p := ⟨w2o.heap.size, 0, none⟩); (try simp at m2); have m3 := hb.frozen (p := ⟨w2o.heap.size, 1, none⟩); (try simp at m3); have HB := Lib.hid hb; have HQ3 := Lib.hid (fun u v => E29.out _ ((HB9.out.setCell (p := ⟨wa.heap.size, 0, none⟩) (Nat.le_refl _) u).setCell (p := ⟨wa.heap.size, 1, none⟩) (Nat.le_refl _) v)); have HQ4 := Lib.hid (fun u v => E29.out _ ((HB9.out.setCell (p := ⟨w2o.heap.size, 0, none⟩) HBO.out.size u).setCell (p := ⟨w2o.heap.size, 1, none⟩) HBO.out.size v)); clear hb))
      all_goals
        go_wp2_with fail
        go_meet
        case rel => first | exact ⟨_, rfl, rfl, res_new _ HB9.out _ _⟩ | exact ⟨_, rfl, rfl, res_fill2 HBO.out HB.out _ _⟩ | exact ⟨_, rfl, rfl, res_fill (Below.then_ HBP.out HB.out) _ _⟩
    case rest =>
      obtain ⟨g21, rfl, rfl, hrb⟩ := hcut
      have HB30 := Lib.hid hrb.1
      have HBR := Lib.hid hrb.2.2
      clear hrb
      obtain ⟨w30, rfl⟩ : ∃ z : World, z = wc := ⟨_, rfl⟩
      have E30 := Lib.hid (fun W (hb : Below w30.heap.size w30 W) => E29.out W (Below.then_ HB30.out hb))
      have CO30 := Lib.hid (fun W (hb : Below w30.heap.size w30 W) => CO29.out W (Below.then_ HB30.out hb))
      have CR31 := Lib.hid (fun (A : Option Addr) (c : Nat) w2 (hb : Below w30.heap.size w30 w2) (hs : SlAt [] w2 A p) => CR30.out A c w2 (Below.then_ HB30.out hb) hs)
      clear CO29 CR29 CR30
      go_upto_region 30 with fail
      go_cut [23, 24] from 143 to 152 (fun a b w' => ∃ g, a = .pointer (some ⟨g, 0, none⟩) ∧ b = .int .i64 re ∧ ResBox w30 w' g 38 (.int .i64 rc) (.int .i64 rt))
      case first =>
        rename_i hK
        obtain ⟨y0, y1, y2, y3⟩ := E30.out _ (below_drew _)
        go_region_held3 (fun w' => w'.cell? ⟨gx, 0, none⟩ = some (.int .i64 x.1) ∧ w'.cell? ⟨gx, 1, none⟩ = some (.slice A1 (Sc.kinds x).length c1) ∧ w'.cell? ⟨gx, 2, none⟩ = some (.slice A2 x.2.2.1.length c2) ∧ w'.cell? ⟨gx, 3, none⟩ = some (.slice A3 x.2.2.2.length c3)) (first | exact E30.out _ (below_drew _) | exact E30.out _ (below_drew_alloc _ _) | exact E30.out _ (below_alloc_drew _ _) | exact E30.out _ HBO.out | exact HZ1.out _ | exact E30.out _ HB9.out | exact HQ1.out _ | exact HQ3.out _ _ | exact HQ4.out _ _) (first | (go_at_call 15; ((with_reducible refine (CO30.out _ (by first | exact below_drew _ | exact below_drew_alloc _ _ | exact below_alloc_drew _ _)).mono ?_)); rintro e w2o ⟨v2, rfl, hr2, hbo⟩; obtain ⟨Ao, co, rfl, _, _, hso⟩ := sl_of hr2; have HBO := Lib.hid (Below.then_ (a := w30) (by first | exact below_drew _ | exact below_drew_alloc _ _ | exact below_alloc_drew _ _) hbo); have HSO := Lib.hid hso; obtain ⟨z0, z1, z2, z3⟩ := E30.out _ HBO.out; have HZ1 := Lib.hid (fun o => E30.out _ (Below.then_ HBO.out (below_alloc w2o o))); have k0 := hbo.cell (p := ⟨w30.heap.size, 0, none⟩); (try simp at k0); have k1 := hbo.cell (p := ⟨w30.heap.size, 1, none⟩); (try simp at k1); have k2 := hbo.frozen (p := ⟨w30.heap.size, 0, none⟩); (try simp at k2); have k3 := hbo.frozen (p := ⟨w30.heap.size, 1, none⟩); (try simp at k3); have hz := hbo.size; (try simp at hz); have HBP := Lib.hid hbo; clear hr2 hbo hso) | (go_at_call 14; ((with_reducible refine (CR31.out Ao co w2o HBO.out HSO.out _ (by first | exact Below.refl _ _ | exact below_alloc _ _)).mono ?_)); rintro e w9 ⟨rfl, hb⟩; have HB9 := Lib.hid (Below.then_ HBO.out (Below.then_ (by first | exact Below.refl _ _ | exact below_alloc _ _) hb)); obtain ⟨q0, q1, q2, q3⟩ := E30.out _ HB9.out; have HQ1 := Lib.hid (fun o => E30.out _ (Below.then_ HB9.out (below_alloc w9 o))); have p0 := hb.cell (p := ⟨w30.heap.size, 0, none⟩); (try simp [Nat.lt_of_succ_le hz, k0] at p0); have p1 := hb.cell (p := ⟨w30.heap.size, 1, none⟩); (try simp [Nat.lt_of_succ_le hz, k1] at p1); have p2 := hb.frozen (p := ⟨w30.heap.size, 0, none⟩); (try simp [Nat.lt_of_succ_le hz, k2] at p2); have p3 := hb.frozen (p := ⟨w30.heap.size, 1, none⟩); (try simp [Nat.lt_of_succ_le hz, k3] at p3); have m0 := hb.cell (p := ⟨w2o.heap.size, 0, none⟩); (try simp at m0); have m1 := hb.cell (p := ⟨w2o.heap.size, 1, none⟩); (try simp at m1); have m2 := hb.frozen (p := ⟨w2o.heap.size, 0, none⟩); (try simp at m2); have m3 := hb.frozen (p := ⟨w2o.heap.size, 1, none⟩); (try simp at m3); have HB := Lib.hid hb; have HQ3 := Lib.hid (fun u v => E30.out _ ((HB9.out.setCell (p := ⟨w30.heap.size, 0, none⟩) (Nat.le_refl _) u).setCell (p := ⟨w30.heap.size, 1, none⟩) (Nat.le_refl _) v)); have HQ4 := Lib.hid (fun u v => E30.out _ ((HB9.out.setCell (p := ⟨w2o.heap.size, 0, none⟩) HBO.out.size u).setCell (p := ⟨w2o.heap.size, 1, none⟩) HBO.out.size v)); clear hb))
        all_goals
          go_wp2_with fail
          go_meet
          case rel => first | exact ⟨_, rfl, rfl, res_new _ HB9.out _ _⟩ | exact ⟨_, rfl, rfl, res_fill2 HBO.out HB.out _ _⟩ | exact ⟨_, rfl, rfl, res_fill (Below.then_ HBP.out HB.out) _ _⟩
      case rest =>
        obtain ⟨g23, rfl, rfl, hrb⟩ := hcut
        have HBF := Lib.hid (Below.then_ HB5.out (Below.then_ HBA.out (Below.then_ HB30.out hrb.1)))
        obtain ⟨r0, r1⟩ := cells2' (HBR.out.below hrb.1 HBR.out.lt)
        obtain ⟨s0, s1⟩ := cells2' hrb.2.2
        have HRE2 := HRE
        clear hrb HRE CO30 CR31 E29 E30
        rcases HRE2.out with rfl | ⟨rfl, rfl, rfl⟩
        · clear HRE2
          go_wp2_with (go_at_call 17; ((with_reducible refine (CL.out _).mono ?_)); rintro e w12 ⟨rfl, hb⟩; replace HBF := Lib.hid (Below.then_ HBF.out hb); clear hb)
          go_ret
          exact ⟨rfl, HBF.out⟩
        · clear HRE2
          go_wp2_with (go_at_call 17; ((with_reducible refine (CL.out _).mono ?_)); rintro e w12 ⟨rfl, hb⟩; replace HBF := Lib.hid (Below.then_ HBF.out hb); clear hb)
          go_ret
          exact ⟨rfl, HBF.out⟩
end Go.Proofs.YtdpcdocaahjeoaaDoor
