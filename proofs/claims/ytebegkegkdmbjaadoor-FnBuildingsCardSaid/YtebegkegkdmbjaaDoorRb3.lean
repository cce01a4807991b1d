/-
  Drawn buildings' texts; a building is recovered from its text.
-/
import Derived.Test.YtebegkegkdmbjaaDoorRb2
namespace Go.Proofs.YtebegkegkdmbjaaDoor
namespace B
open Go.RowKit

/-- The parents are few; behind the root they are nodes. -/
def sml (ps : List Int) : Prop := ∀ k, k < ps.length → -1 ≤ par ps k ∧ par ps k ≤ 22 ∧ (1 ≤ k → 0 ≤ par ps k)
theorem sml_one : sml [-1] := fun k hk => by
  obtain rfl : k = 0 := by simp at hk; exact hk
  simp [par]
theorem sml.snoc {ps : List Int} {g : Int} (h : sml ps) (_ : 1 ≤ ps.length) (hg : 0 ≤ g ∧ g ≤ 22) : sml (ps ++ [g]) := fun k hk => by
  by_cases e : k < ps.length
  · have e1 : par (ps ++ [g]) k = par ps k := by simp [par, List.getD, List.getElem?_append_left e]
    rw [e1]; exact h k e
  · obtain rfl : k = ps.length := by simp at hk; omega
    have e1 : par (ps ++ [g]) ps.length = g := by simp [par, List.getD]
    rw [e1]; omega
theorem btV_len (ps : List Int) (ds : List Bool) : (btV ps ds).length ≤ 1000 := by
  unfold btV
  split
  · rename_i h
    have h1 := btx_len (ds := ds) (bld_small h) ps.length (Nat.le_refl _)
    have h2 := h.1.1
    omega
  · simp
theorem rb_back {s : List UInt8} (h : rbC s = 0) : btC (rbP s).1 (rbP s).2 = 0 ∧ btV (rbP s).1 (rbP s).2 = s := by
  obtain ⟨h1, h2⟩ := rbC_zero h
  refine ⟨btC_zero.2 h1, ?_⟩
  unfold btV
  rw [if_pos h1]
  exact h2.symm
theorem rb_own {ps : List Int} {ds : List Bool} (h : btC ps ds = 0) : rbC (btV ps ds) = 0 ∧ (rbP (btV ps ds)).1 = ps ∧ (rbP (btV ps ds)).2 = ds := by
  have hb := btC_zero.1 h
  have e : btV ps ds = btx ps ds ps.length := by unfold btV; rw [if_pos hb]
  obtain ⟨h1, h2⟩ := rb_yes (s := btV ps ds) ⟨hb, e⟩
  rw [h2]
  exact ⟨h1, rfl, rfl⟩
theorem bne_iff {p q : Prop} [Decidable p] [Decidable q] (h : p ↔ q) : (decide p != decide q) = false := by
  by_cases hp : p
  · have hq := h.1 hp
    rw [decide_eq_true hp, decide_eq_true hq]; rfl
  · have hq := fun x => hp (h.2 x)
    rw [decide_eq_false hp, decide_eq_false hq]; rfl
end B
end Go.Proofs.YtebegkegkdmbjaaDoor
