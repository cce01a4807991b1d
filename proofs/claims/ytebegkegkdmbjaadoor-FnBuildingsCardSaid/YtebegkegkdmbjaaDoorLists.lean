/-
  Plain facts on lists and worlds that the walks use.
-/
import Derived.Test.YtebegkegkdmbjaaDoorMem
namespace Go.Proofs.YtebegkegkdmbjaaDoor
namespace B
open Go.RowKit

theorem grown_trans {a b c : World} {r : Option Nat} (h : a.grownBy b r) (k : b.grownBy c r) : a.grownBy c r :=
  ⟨k.os.trans h.os, k.tape.trans h.tape, k.output.trans h.output, Nat.le_trans h.size k.size, fun i hi hne => (k.block i (Nat.lt_of_lt_of_le hi h.size) hne).trans (h.block i hi hne)⟩

theorem Ext.grownBy {a b : World} (h : Ext a b) (r : Option Nat) : a.grownBy b r := ⟨Below.os h, Below.tape h, Below.output h, Below.size h, fun k hk _ => Below.block h k hk⟩

/-- What a slice holds that was marked from k on. -/
def marks (n : Nat) (k : Int) : List Int := (List.range n).map fun i : Nat => k + (i : Int)
theorem marks_len (n : Nat) (k : Int) : (marks n k).length = n := by simp [marks]
theorem marks_at {n i : Nat} {k : Int} (h : i < n) : (marks n k)[i]? = some (k + (i : Int)) := by simp [marks, h]
theorem marks_succ (n : Nat) (k : Int) : marks (n + 1) k = marks n k ++ [k + (n : Int)] := by simp [marks, List.range_succ]
theorem marks_step {xs : List Int} {k : Nat} {k0 : Int} (h : k < xs.length) : (marks k k0 ++ xs.drop k).set k (k0 + (k : Int)) = marks (k + 1) k0 ++ xs.drop (k + 1) := by
  rw [List.set_append_right _ _ (by simp [marks]), marks_succ, List.drop_eq_getElem_cons h, marks_len, Nat.sub_self, List.set_cons_zero, List.append_assoc]
  rfl
theorem marks_get {xs : List Int} {k : Nat} {k0 : Int} (e : xs = marks xs.length k0) (h : k < xs.length) : xs[k] = k0 + (k : Int) := by
  have h1 : xs[k]? = some (k0 + (k : Int)) := by rw [e]; exact marks_at h
  rw [List.getElem?_eq_getElem h] at h1
  exact Option.some.inj h1
theorem all_snoc {α : Type} {p : α → Prop} {xs : List α} {k : Nat} (h : k < xs.length) (ha : ∀ x ∈ xs.take k, p x) (hk : p xs[k]) : ∀ x ∈ xs.take (k + 1), p x := by
  intro x hx
  rw [List.take_succ_eq_append_getElem h, List.mem_append, List.mem_singleton] at hx
  rcases hx with hx | rfl
  · exact ha x hx
  · exact hk

theorem all_succ {p : Nat → Prop} {k : Nat} (h : ∀ j, j < k → p j) (hk : p k) : ∀ j, j < k + 1 → p j := fun j hj => by
  by_cases e : j = k
  · subst e; exact hk
  · exact h j (by omega)
/-- The numbers below k that p takes. -/
def idxs (p : Nat → Bool) (k : Nat) : List Int := ((List.range k).filter p).map fun i : Nat => (i : Int)
theorem idxs_zero (p : Nat → Bool) : idxs p 0 = [] := rfl
theorem idxs_yes {p : Nat → Bool} {k : Nat} (h : p k = true) : idxs p (k + 1) = idxs p k ++ [(k : Int)] := by simp [idxs, List.range_succ, h]
theorem idxs_no {p : Nat → Bool} {k : Nat} (h : p k = false) : idxs p (k + 1) = idxs p k := by simp [idxs, List.range_succ, h]
theorem idxs_le (p : Nat → Bool) (k : Nat) : (idxs p k).length ≤ k := by
  have := List.length_filter_le p (List.range k)
  simpa [idxs] using this
theorem idxs_congr {p q : Nat → Bool} {k : Nat} (h : ∀ i, i < k → p i = q i) : idxs p k = idxs q k := by
  unfold idxs
  rw [List.filter_congr (fun i hi => h i (List.mem_range.1 hi))]
theorem mem_idxs {p : Nat → Bool} {k : Nat} {x : Int} : x ∈ idxs p k ↔ ∃ i : Nat, i < k ∧ p i = true ∧ x = (i : Int) := by
  simp only [idxs, List.mem_map, List.mem_filter, List.mem_range]
  constructor
  · rintro ⟨i, ⟨h1, h2⟩, rfl⟩; exact ⟨i, h1, h2, rfl⟩
  · rintro ⟨i, h1, h2, rfl⟩; exact ⟨i, ⟨h1, h2⟩, rfl⟩
theorem getD_lt {α : Type} {xs : List α} {k : Nat} {d : α} (h : k < xs.length) : xs.getD k d = xs[k] := by simp [List.getD, List.getElem?_eq_getElem h]

/-- Strictly increasing numbers from 0 to n - 1: the first k of them. -/
def risesTo (xs : List Int) (n : Int) (k : Nat) : Prop := ∀ i, i < k → 0 ≤ xs.getD i 0 ∧ xs.getD i 0 < n ∧ (0 < i → xs.getD (i - 1) 0 < xs.getD i 0)
instance (xs : List Int) (n : Int) (k : Nat) : Decidable (risesTo xs n k) := by unfold risesTo; infer_instance
def rises (xs : List Int) (n : Int) : Prop := risesTo xs n xs.length
instance (xs : List Int) (n : Int) : Decidable (rises xs n) := by unfold rises; infer_instance
theorem risesTo_succ {xs : List Int} {n : Int} {k : Nat} (h : risesTo xs n k) (h0 : 0 ≤ xs.getD k 0) (h1 : xs.getD k 0 < n) (h2 : 0 < k → xs.getD (k - 1) 0 < xs.getD k 0) : risesTo xs n (k + 1) := by
  intro i hi
  by_cases e : i = k
  · subst e; exact ⟨h0, h1, h2⟩
  · exact h i (by omega)
theorem rises_mono {xs : List Int} {n : Int} (h : rises xs n) : ∀ d i, i + d < xs.length → 0 < d → xs.getD i 0 < xs.getD (i + d) 0 := by
  intro d
  induction d with
  | zero => intro i _ h0; omega
  | succ d ih =>
    intro i hi _
    have h1 := (h (i + (d + 1)) hi).2.2 (by omega)
    by_cases hd : d = 0
    · subst hd; simpa using h1
    · have := ih i (by omega) (by omega)
      have e : i + (d + 1) - 1 = i + d := by omega
      rw [e] at h1
      omega
end B
end Go.Proofs.YtebegkegkdmbjaaDoor
