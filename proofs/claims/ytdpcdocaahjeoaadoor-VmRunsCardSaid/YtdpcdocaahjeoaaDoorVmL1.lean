/- Plain laws for the statements about Run. No function of Go in sight. -/
import Derived.Test.YtdpcdocaahjeoaaDoorM12
import Derived.Test.YtdpcdocaahjeoaaDoorW41
namespace Go.Proofs.YtdpcdocaahjeoaaDoor
open Go Go.RowKit
namespace Vm
theorem run_fine {s : Shape} {m : Nat} {p : List Ins} {w : Wld} {n : Int} (hf : Fine s m p) (hm : m ≤ 128) (h0 : 0 ≤ n) (h1 : n ≤ 1000000) : run s p w n = go p w n.toNat 0 0 [0, 0, 0, 0, 0, 0, 0, 0] := by
  unfold run
  rw [if_neg (by rw [hf.vld hm]; simp), if_neg (by omega), if_neg (by rw [hf.named]; simp)]
theorem run_err {s : Shape} {m : Nat} {p : List Ins} {w : Wld} {n : Int} (hf : Fine s m p) (hm : m ≤ 128) (h0 : 0 ≤ n) (h1 : n ≤ 1000000) {c t e : Int} (h : run s p w n = (c, t, e)) : e = 0 ∨ (c = 0 ∧ t = 0 ∧ e = 23) := by
  rw [run_fine hf hm h0 h1] at h
  rcases go_err p w n.toNat 0 0 [0, 0, 0, 0, 0, 0, 0, 0] with h2 | h2
  · rw [h] at h2; exact .inl h2
  · rw [h] at h2
    injection h2 with h2 h3; injection h3 with h3 h4
    exact .inr ⟨h2, h3, h4⟩
theorem run_more {s : Shape} {m : Nat} {p : List Ins} {w : Wld} {n : Int} (hf : Fine s m p) (hm : m ≤ 128) (h0 : 0 ≤ n) (h1 : n ≤ 1000000) {c t : Int} (h : run s p w n = (c, t, 0)) :
    0 ≤ t ∧ t ≤ n ∧ (∀ k, t ≤ k → k ≤ 1000000 → run s p w k = (c, t, 0)) ∧ (∀ k, 0 ≤ k → k < t → run s p w k = (0, 0, 23)) ∧ (t = 0 → p.length = 0) := by
  rw [run_fine hf hm h0 h1] at h
  obtain ⟨a1, a2, a3⟩ := go_steps p w _ _ _ _ _ _ h
  refine ⟨a1, by omega, fun k k1 k2 => ?_, fun k k1 k2 => ?_, fun ht => ?_⟩
  · rw [run_fine hf hm (by omega) k2]; exact (a3 _).1 (by omega)
  · rw [run_fine hf hm k1 (by omega)]; exact (a3 _).2 (by omega)
  · subst ht
    rw [go_eq] at h
    by_cases hp : (0 : Int) = p.length
    · omega
    · rw [if_neg hp] at h
      split at h
      · injection h with h1 h2; injection h2 with h2 h3; omega
      · split at h
        · injection h with h1 h2; injection h2 with h2 h3; omega
        · have := (go_steps p w _ _ _ _ _ _ h).1; omega
/-- Further instructions behind a last stop. -/
theorem run_ext {s : Shape} {p q : List Ins} {w : Wld} {n : Int} (hp : Fine s 20 p) (hq : Fine s 20 q) (hp0 : ∀ i ∈ p, insOk (p.length : Int) i = true) (h0 : 0 ≤ n) (h1 : n ≤ 1000000)
    (h2 : vld (p ++ [(0, 0, 0, 0)]) = 0) (h3 : vld (p ++ [(0, 0, 0, 0)] ++ q) = 0) : run s (p ++ [(0, 0, 0, 0)]) w n = run s (p ++ [(0, 0, 0, 0)] ++ q) w n := by
  have hn : nmOk s (0, 0, 0, 0) = true := nm_other (by decide) (by decide)
  have n1 : named s (p ++ [(0, 0, 0, 0)]) = true := named_of fun i hi => (List.mem_append.1 hi).elim (hp.nm i) (fun h => by rw [List.mem_singleton.1 h]; exact hn)
  have n2 : named s (p ++ [(0, 0, 0, 0)] ++ q) = true := named_of fun i hi => (List.mem_append.1 hi).elim (fun h => (List.mem_append.1 h).elim (hp.nm i) (fun h => by rw [List.mem_singleton.1 h]; exact hn)) (hq.nm i)
  unfold run
  rw [if_neg (by rw [h2]; simp), if_neg (by omega), if_neg (by rw [n1]; simp), if_neg (by rw [h3]; simp), if_neg (by omega), if_neg (by rw [n2]; simp)]
  exact go_ext p q w hp0 _ _ _ _ (by omega) (by omega)
theorem fits_mono {k : Nat} {v n m : Int} (h : fits k v n = true) (hnm : n ≤ m) : fits k v m = true := by
  unfold fits at h ⊢
  repeat' split
  all_goals first | (simp_all; done) | (simp_all; omega)
theorem insOk_mono {n m : Int} {i : Ins} (h : insOk n i = true) (hnm : n ≤ m) : insOk m i = true := by
  unfold insOk at h ⊢
  simp only [Bool.and_eq_true, decide_eq_true_eq] at h ⊢
  exact ⟨⟨⟨h.1.1.1, fits_mono h.1.1.2 hnm⟩, fits_mono h.1.2 hnm⟩, fits_mono h.2 hnm⟩
theorem ended_vld {s : Shape} {p : List Ins} (h : Fine s 20 p) : vld (p ++ [(0, 0, 0, 0)]) = 0 :=
  vld_of (by have := h.len; simp; omega) fun i hi => by
    simp only [List.length_append, List.length_cons, List.length_nil]
    rcases List.mem_append.1 hi with hi | hi
    · exact insOk_mono (h.ok i hi) (by omega)
    · rw [List.mem_singleton.1 hi]; exact ok_stop (by omega) (by omega)
theorem ended_fine {s : Shape} {p : List Ins} (h : Fine s 20 p) : Fine s 21 (p ++ [(0, 0, 0, 0)]) :=
  ⟨by have := h.len; simp; omega, fun i hi => by
    simp only [List.length_append, List.length_cons, List.length_nil]
    rcases List.mem_append.1 hi with hi | hi
    · exact insOk_mono (h.ok i hi) (by omega)
    · rw [List.mem_singleton.1 hi]; exact ok_stop (by omega) (by omega), fun i hi => (List.mem_append.1 hi).elim (h.nm i) (fun h => by rw [List.mem_singleton.1 h]; exact nm_other (by decide) (by decide))⟩
theorem longer_vld {s : Shape} {p q : List Ins} (h : Fine s 20 p) (k : Fine s 20 q) : vld (p ++ [(0, 0, 0, 0)] ++ q) = 0 :=
  vld_of (by have := h.len; have := k.len; simp; omega) fun i hi => by
    simp only [List.length_append, List.length_cons, List.length_nil]
    rcases List.mem_append.1 hi with hi | hi
    · rcases List.mem_append.1 hi with hi | hi
      · exact insOk_mono (h.ok i hi) (by omega)
      · rw [List.mem_singleton.1 hi]; exact ok_stop (by omega) (by omega)
    · exact insOk_mono (k.ok i hi) (by omega)
end Vm
theorem WorB.ok {s : Vm.Shape} {wl : Wor} (h : WorB s wl) (hl : wl.length = s.length) : ∀ k, k < s.length → ∀ r ∈ wl.getD k [], s.getD k 0 ≤ r.length := by
  intro k hk r hr
  have hk2 : k < wl.length := by omega
  rw [List.getD_eq_getElem?_getD, List.getElem?_eq_getElem hk2] at hr
  exact Nat.le_of_eq ((h k hk2).2 r hr).1.symm
end Go.Proofs.YtdpcdocaahjeoaaDoor
