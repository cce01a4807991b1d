/-
  Buildings: what the laws on ancestors and groups say, in plain terms.
-/
import Derived.Test.YtkkeipogkjlneaaBld
namespace Go.Proofs.Ytkkeipogkjlneaa
namespace B
open Go.RowKit
theorem hiTo_le {ps : List Int} : ∀ {n k : Nat}, k < n → (ancs ps (k : Int)).length ≤ hiTo ps n
  | 0, _, h => by omega
  | n + 1, k, h => by
    simp only [hiTo]
    by_cases e : k = n
    · subst e; omega
    · have := hiTo_le (ps := ps) (n := n) (k := k) (by omega); omega
theorem mem_doorsU {ps : List Int} {ds : List Bool} {y d : Int} : d ∈ doorsU ps ds y ↔ (0 ≤ d ∧ d < ps.length) ∧ isD ds d.toNat = true ∧ under ps d y := by
  unfold doorsU
  rw [mem_idxs]
  constructor
  · rintro ⟨i, h1, h2, rfl⟩
    simp only [dUnder, Bool.and_eq_true, decide_eq_true_eq] at h2
    exact ⟨⟨by omega, by omega⟩, by simpa using h2.1, h2.2⟩
  · rintro ⟨⟨h0, h1⟩, h2, h3⟩
    refine ⟨d.toNat, by omega, ?_, by omega⟩
    simp only [dUnder, Bool.and_eq_true, decide_eq_true_eq]
    rw [show ((d.toNat : Nat) : Int) = d from by omega]
    exact ⟨h2, h3⟩
theorem ncC_one {ps : List Int} {ds : List Bool} {x : Int} (hb : bld ps ds) (h : 0 ≤ x ∧ x < ps.length) : ncC ps ds [x] = 0 := ncC_zero.2 ⟨hb, by simp; omega⟩
theorem ncC_root {ps : List Int} {ds : List Bool} {x : Int} (h : ncC ps ds [x] = 0) : ncC ps ds [0] = 0 := by
  obtain ⟨hb, _⟩ := ncC_zero.1 h
  have := hb.1.1
  exact ncC_one hb ⟨Int.le_refl 0, by omega⟩
theorem ncC_nil {ps : List Int} {ds : List Bool} {x : Int} (h : ncC ps ds [x] = 0) : ncC ps ds [] = 0 := ncC_zero.2 ⟨(ncC_zero.1 h).1, by simp⟩
theorem door_facts {ps : List Int} {ds : List Bool} {x d : Int} (hx : ncC ps ds [x] = 0) (hd : d ∈ duV ps ds 0) : ncC ps ds [d] = 0 ∧ (x ∈ anV ps ds d ↔ d ∈ duV ps ds x) ∧ ((anV ps ds d).length : Int) ≤ hiV ps ds := by
  obtain ⟨hb, _⟩ := ncC_zero.1 hx
  have h0 := ncC_root hx
  unfold duV at hd
  rw [if_pos h0] at hd
  obtain ⟨hr, h1, _⟩ := mem_doorsU.1 hd
  have hdn := ncC_one hb hr
  refine ⟨hdn, ?_, ?_⟩
  · unfold anV duV
    rw [if_pos hdn, if_pos hx, mem_doorsU]
    exact ⟨fun h => ⟨hr, h1, h⟩, fun h => h.2.2⟩
  · unfold anV hiV
    rw [if_pos hdn, if_pos (ncC_nil hx)]
    have := hiTo_le (ps := ps) (n := ps.length) (k := d.toNat) (by omega)
    rw [show ((d.toNat : Nat) : Int) = d from by omega] at this
    omega
theorem cgTo_all {ps ns : List Int} (h0 : allU ps ns 0) : ∀ k, allU ps ns (cgTo ps ns k)
  | 0 => h0
  | k + 1 => by
    simp only [cgTo]
    split
    · assumption
    · exact cgTo_all h0 k
theorem cg_facts {ps : List Int} {ds : List Bool} {ns : List Int} {x : Int} (h : cgC ps ds ns = 0) (hx : x ∈ ns) : ncC ps ds [x] = 0 ∧ cgV ps ds ns ∈ anV ps ds x := by
  have hn : ncC ps ds ns = 0 := by
    unfold cgC at h
    split at h
    · assumption
    · exact h
  obtain ⟨hb, hall⟩ := ncC_zero.1 hn
  have hl : 1 ≤ ns.length ∧ ns.length ≤ 24 := by
    unfold cgC at h
    rw [if_pos hn] at h
    split at h
    · assumption
    · omega
  have hxr := hall x hx
  have hx0 := ncC_one hb (x := x) ⟨hxr.1, by omega⟩
  refine ⟨hx0, ?_⟩
  unfold cgV anV
  rw [if_pos hx0, if_pos ⟨hn, hl.1, hl.2⟩]
  refine cgTo_all (fun y hy => ?_) ps.length x hx
  have hy2 := hall y hy
  exact under_root hb (y + 1).toNat y hy2.1 (by omega) (by omega)
end B
end Go.Proofs.Ytkkeipogkjlneaa
