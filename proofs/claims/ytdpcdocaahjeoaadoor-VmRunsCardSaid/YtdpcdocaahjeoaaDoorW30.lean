/- ends, lives. -/
import Derived.Test.YtdpcdocaahjeoaaDoorW29
import Derived.Test.YtdpcdocaahjeoaaDoorW11
namespace Go.Proofs.YtdpcdocaahjeoaaDoor
open Go Go.RowKit
def exF : Fld := (str [105, 100], str [], str [], 0, 0, 0, [], [])
def exK : Knd := (str [97], 0, 2, [exF])
def exX : Sch := (0, [exK], [], [])
theorem exFld {G : List Nat} {w : World} : Mem.rep G w exF [.string (str [105, 100]), .string (str []), .string (str []), .int .i64 0, .int .i64 0, .int .i64 0, .slice none 0 0, .slice none 0 0] :=
  ⟨[_], _, rfl, ⟨rfl, by decide⟩, [_], _, rfl, ⟨rfl, by decide⟩, [_], _, rfl, ⟨rfl, by decide⟩, [_], _, rfl, ⟨rfl, by unfold inI; decide⟩, [_], _, rfl, ⟨rfl, by unfold inI; decide⟩, [_], _, rfl, ⟨rfl, by unfold inI; decide⟩, [_], _, rfl, ⟨none, 0, rfl, Nat.le_refl _, by omega, .nil⟩, ⟨none, 0, rfl, Nat.le_refl _, by omega, .nil⟩⟩
theorem exSch {w : World} {gf gk : Nat} (hF : Blk w gf 96 #[.string (str [105, 100]), .string (str []), .string (str []), .int .i64 0, .int .i64 0, .int .i64 0, .slice none 0 0, .slice none 0 0]) (hK : Blk w gk 56 #[.string (str [97]), .int .i64 0, .int .i64 2, .slice (some ⟨gf, 0, none⟩) 1 1]) :
    SchV exX w (.agg #[.int .i64 0, .slice (some ⟨gk, 0, none⟩) 1 1, .slice none 0 0, .slice none 0 0]) := by
  have sF : SlAt [] w (some ⟨gf, 0, none⟩) [exF] := SlAt.of_blk (Flat.single exFld) hF (by simp)
  have rK : Mem.rep [] w exK [.string (str [97]), .int .i64 0, .int .i64 2, .slice (some ⟨gf, 0, none⟩) 1 1] := ⟨[_], _, rfl, ⟨rfl, by decide⟩, [_], _, rfl, ⟨rfl, by unfold inI; decide⟩, [_], _, rfl, ⟨rfl, by unfold inI; decide⟩, ⟨_, 1, rfl, Nat.le_refl _, by omega, sF⟩⟩
  have sK : SlAt [] w (some ⟨gk, 0, none⟩) [exK] := SlAt.of_blk (Flat.single rK) hK (by simp)
  exact ⟨_, rfl, [_], _, rfl, ⟨rfl, by unfold inI; decide⟩, [_], _, rfl, ⟨_, 1, rfl, Nat.le_refl _, by omega, sK⟩, [_], _, rfl, ⟨none, 0, rfl, Nat.le_refl _, by omega, .nil⟩, ⟨none, 0, rfl, Nat.le_refl _, by omega, .nil⟩⟩
theorem exWor {w : World} {g5 g9 gr gw : Nat} (h5 : Blk w g5 3 #[.int .i64 5]) (h9 : Blk w g9 3 #[.int .i64 9]) (hr : Blk w gr 22 #[.slice (some ⟨g5, 0, none⟩) 1 1, .slice (some ⟨g9, 0, none⟩) 1 1]) (hw : Blk w gw 59 #[.slice (some ⟨gr, 0, none⟩) 2 2]) : SlAt [] w (some ⟨gw, 0, none⟩) ([[[5], [9]]] : Wor) := by
  have s5 : SlAt [] w (some ⟨g5, 0, none⟩) ([5] : List Int) := SlAt.of_blk (Flat.single ⟨rfl, by unfold inI; decide⟩) h5 (by simp)
  have s9 : SlAt [] w (some ⟨g9, 0, none⟩) ([9] : List Int) := SlAt.of_blk (Flat.single ⟨rfl, by unfold inI; decide⟩) h9 (by simp)
  have sr : SlAt [] w (some ⟨gr, 0, none⟩) ([[5], [9]] : List (List Int)) := SlAt.of_blk (xs := [.slice (some ⟨g5, 0, none⟩) 1 1, .slice (some ⟨g9, 0, none⟩) 1 1]) ⟨[_], [_], rfl, ⟨_, 1, rfl, Nat.le_refl _, by omega, s5⟩, [_], [], rfl, ⟨_, 1, rfl, Nat.le_refl _, by omega, s9⟩, rfl⟩ hr (by simp)
  exact SlAt.of_blk (Flat.single ⟨_, 2, rfl, Nat.le_refl _, by omega, sr⟩) hw (by simp)
set_option maxRecDepth 100000 in
set_option maxHeartbeats 4000000 in
theorem ends_any (s : ByteArray) (p : List Vm.Ins) (code steps : Int) (w : World) (hs : s.size ≤ 1000000) (hp : Vm.parse s.data.toList = (p, 0, 0)) (hl : p.length ≤ 128) (hr : Vm.run [1] p [[[5], [9]]] 100 = (code, steps, 0)) :
    Calls Tryd.prog 42 #[.string s, .int .i64 code, .int .i64 steps] w fun e w' => e = .returned (.bool true) ∧ Below w.heap.size w w' := by
  have CP := Lib.hid (fun W => parse_any s W hs)
  unfold ParseP at CP
  rw [hp] at CP
  dsimp only at CP
  have HR := Lib.hid hr
  obtain ⟨n, hn⟩ : ∃ z, p.length = z := ⟨_, rfl⟩
  have HN := Lib.hid hn
  have T := Lib.hid ((((held0 w [] (fun _ h => by cases h)).made #[.string (str [105, 100]), .string (str []), .string (str []), .int .i64 0, .int .i64 0, .int .i64 0, .slice none 0 0, .slice none 0 0] 96 rfl).made #[.string (str [97]), .int .i64 0, .int .i64 2, .slice (some ⟨w.heap.size, 0, none⟩) 1 1] 56 (N := w.heap.size + 1) (by simp)).made #[.int .i64 0, .slice (some ⟨w.heap.size + 1, 0, none⟩) 1 1, .slice none 0 0, .slice none 0 0] 27 (N := w.heap.size + 2) (by simp))
  clear hp hr hn
  go_enter Tryd.func42, Tryd.ntmps42
  go_upto_region 3 with (go_at_call 28; ((with_reducible refine (CP.out _).mono ?_)); rintro e w1 ⟨v, rfl, hrep, hb⟩; replace T := Lib.hid (T.out.got hb hrep); clear hb hrep)
  have hrep := T.out.fact (.head _)
  have HS := Lib.hid (fun W (hb : Below w1.heap.size w1 W) => exSch (w := W) ((T.out.below hb).blk (.tail _ (.tail _ (.tail _ (.head _))))) ((T.out.below hb).blk (.tail _ (.tail _ (.head _)))))
  obtain ⟨c0, c1, c2, c3⟩ := cells4 (T.out.blk (.tail _ (.head _)))
  obtain ⟨Ap, cp, rfl, _, _, hsl⟩ := sl_of hrep
  have HP := Lib.hid (fun W (hb : Below w1.heap.size w1 W) => hsl.keep (Chg.of_below (G := []) hb))
  have HB1 := Lib.hid T.out.bl
  have CR := Lib.hid (fun W g5 g9 gr gw (hb : Below w1.heap.size w1 W) (h5 : Blk W g5 3 #[.int .i64 5]) (h9 : Blk W g9 3 #[.int .i64 9]) (hr : Blk W gr 22 #[.slice (some ⟨g5, 0, none⟩) 1 1, .slice (some ⟨g9, 0, none⟩) 1 1]) (hw : Blk W gw 59 #[.slice (some ⟨gr, 0, none⟩) 2 2]) =>
    (run_any exX _ p Ap cp [[[5], [9]]] (some ⟨gw, 0, none⟩) 1 100 W (HS.out W hb) (HP.out W hb) (by omega) (exWor h5 h9 hr hw) (by decide)))
  have T2 := Lib.hid (((((held0 w1 [] (fun _ h => by cases h)).made #[.int .i64 5] 3 rfl).made #[.int .i64 9] 3 (N := w1.heap.size + 1) (by simp)).made #[.slice (some ⟨w1.heap.size, 0, none⟩) 1 1, .slice (some ⟨w1.heap.size + 1, 0, none⟩) 1 1] 22 (N := w1.heap.size + 1 + 1) (by simp)).made #[.slice (some ⟨w1.heap.size + 1 + 1, 0, none⟩) 2 2] 59 (N := w1.heap.size + 1 + 1 + 1) (by simp))
  have CR2 := Lib.hid (show Calls Tryd.prog 14 #[_, .slice Ap p.length cp, .iface 46 (.agg #[.slice (some ⟨w1.heap.size + 1 + 1 + 1, 0, none⟩) 1 1]), .int .i64 100] _ _ from CR.out _ _ _ _ _ T2.out.bl (T2.out.blk (.tail _ (.tail _ (.tail _ (.head _))))) (T2.out.blk (.tail _ (.tail _ (.head _)))) (T2.out.blk (.tail _ (.head _))) (T2.out.blk (.head _)))
  rw [HN.out] at CR2 ⊢
  rw [show Vm.run (shp (Sc.kinds exX)) p [[[5], [9]]] 100 = (code, steps, 0) from HR.out] at CR2
  clear hrep hsl
  unfold TupR at CR2
  dsimp only at CR2
  have HB2 := Lib.hid T2.out.bl
  go_wp2_with (go_at_call 14; ((with_reducible refine (CR2.out).mono ?_)); rintro e w3 ⟨rfl, hb3⟩; have HB3 := Lib.hid (HB1.out.trans ((HB2.out.trans (hb3.mono HB2.out.size)).mono HB1.out.size)); clear hb3)
  go_ret
  exact ⟨rfl, HB3.out.alloc HB3.out.size _⟩
/-- The schema and the world with nothing in them. -/
def noX : Sch := (0, [], [], [])
theorem noSch {w : World} : SchV noX w (.agg #[.int .i64 0, .slice none 0 0, .slice none 0 0, .slice none 0 0]) :=
  ⟨_, rfl, [_], _, rfl, ⟨rfl, by unfold inI; decide⟩, [_], _, rfl, ⟨none, 0, rfl, Nat.le_refl _, by omega, .nil⟩, [_], _, rfl, ⟨none, 0, rfl, Nat.le_refl _, by omega, .nil⟩, ⟨none, 0, rfl, Nat.le_refl _, by omega, .nil⟩⟩
theorem ex_bytes (b : ByteArray) (l : List UInt8) (h : b.data.toList = l) (p : List Vm.Ins) (hp : Vm.parse l = (p, 0, 0)) : Vm.parse b.data.toList = (p, 0, 0) := by rw [h]; exact hp
set_option maxRecDepth 100000 in
set_option maxHeartbeats 4000000 in
theorem lives_any (w : World) : Calls Tryd.prog 17 #[] w fun e w' => e = .returned (.bool true) ∧ Below w.heap.size w w' := by
  have T := Lib.hid ((held0 w [] (fun _ h => by cases h)).made #[.int .i64 6, .int .i64 0, .int .i64 0, .int .i64 0] 104 rfl)
  have hi : SlAt [] (w.alloc (.cells #[.int .i64 6, .int .i64 0, .int .i64 0, .int .i64 0] 104)) (some ⟨w.heap.size, 0, none⟩) ([(6, 0, 0, 0)] : List Vm.Ins) :=
    SlAt.of_blk (Flat.single (Vm.ins_rep (a := 6) (b := 0) (c := 0) (d := 0) (by unfold inI; decide) (by unfold inI; decide) (by unfold inI; decide) (by unfold inI; decide))) (T.out.blk (.head _)) (by simp)
  have CR := Lib.hid (show Calls Tryd.prog 14 #[_, .slice (some ⟨w.heap.size, 0, none⟩) 1 1, .iface 46 (.agg #[.slice none 0 0]), .int .i64 1000] _ _ from run_any noX _ [(6, 0, 0, 0)] (some ⟨w.heap.size, 0, none⟩) 1 [] none 0 1000 _ noSch hi (by decide) .nil (by decide))
  rw [show Vm.run (shp (Sc.kinds noX)) [(6, 0, 0, 0)] [] 1000 = (0, 0, 23) from Vm.ex0_r] at CR
  unfold TupR at CR
  dsimp only at CR
  have HB := Lib.hid T.out.bl
  have CE := Lib.hid (fun (s : ByteArray) (l : List UInt8) (p : List Vm.Ins) (a b : Int) (hs : s.data.toList = l) (hsz : s.size ≤ 1000000) (hp : Vm.parse l = (p, 0, 0)) (hl : p.length ≤ 128) (hr : Vm.run [1] p [[[5], [9]]] 100 = (a, b, 0)) W => ends_any s p a b W hsz (ex_bytes s l hs p hp) hl hr)
  have E1 := Lib.hid (CE.out ⟨#[115, 105, 122, 101, 32, 49, 32, 48, 32, 108, 111, 97, 100, 32, 50, 32, 49, 32, 108, 101, 115, 115, 32, 50, 32, 49, 32, 52, 32, 115, 116, 111, 112, 32, 55, 32, 103, 101, 116, 32, 50, 32, 48, 32, 48, 32, 108, 111, 97, 100, 32, 51, 32, 57, 32, 115, 97, 109, 101, 32, 50, 32, 51, 32, 56, 32, 115, 116, 111, 112, 32, 56, 32, 115, 116, 111, 112, 32, 57]⟩ Vm.ex1 _ 9 7 (by decide +kernel) (by decide +kernel) Vm.ex1_p (by decide) (by have := Vm.ex1_r; rw [Vm.ex1_p] at this; exact this))
  have E2 := Lib.hid (CE.out ⟨#[103, 101, 116, 32, 48, 32, 48, 32, 48, 32, 115, 116, 111, 112, 32, 51]⟩ Vm.ex2 _ 3 2 (by decide +kernel) (by decide +kernel) Vm.ex2_p (by decide) (by have := Vm.ex2_r; rw [Vm.ex2_p] at this; exact this))
  have E3 := Lib.hid (CE.out ⟨#[108, 111, 97, 100, 32, 48, 32, 50, 32, 103, 101, 116, 32, 48, 32, 48, 32, 48]⟩ Vm.ex3 _ 251 2 (by decide +kernel) (by decide +kernel) Vm.ex3_p (by decide) (by have := Vm.ex3_r; rw [Vm.ex3_p] at this; exact this))
  clear hi T CE
  go_enter Tryd.func17, Tryd.ntmps17
  go_wp2_with (first | (go_at_call 14; ((with_reducible refine (CR.out).mono ?_)); rintro e w1 ⟨rfl, hb1⟩; replace HB := Lib.hid ((HB.out.trans (hb1.mono HB.out.size)).alloc (by have := (HB.out.trans (hb1.mono HB.out.size)).size; exact this) (.cells #[.int .i64 0, .int .i64 0] 38)); clear hb1) | (go_at_call 42; ((with_reducible refine (E1.out _).mono ?_)); rintro e w1 ⟨rfl, hb1⟩; replace HB := Lib.hid (HB.out.trans (hb1.mono HB.out.size)); clear hb1) | (go_at_call 42; ((with_reducible refine (E2.out _).mono ?_)); rintro e w1 ⟨rfl, hb1⟩; replace HB := Lib.hid (HB.out.trans (hb1.mono HB.out.size)); clear hb1) | (go_at_call 42; ((with_reducible refine (E3.out _).mono ?_)); rintro e w1 ⟨rfl, hb1⟩; replace HB := Lib.hid (HB.out.trans (hb1.mono HB.out.size)); clear hb1))
  go_ret
  exact ⟨rfl, HB.out⟩
end Go.Proofs.YtdpcdocaahjeoaaDoor
