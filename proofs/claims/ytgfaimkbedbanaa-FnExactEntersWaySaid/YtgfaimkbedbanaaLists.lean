/-
  Plain facts on lists and worlds that the walks use.
-/
import Derived.Test.YtgfaimkbedbanaaMem
namespace Go.Proofs.Ytgfaimkbedbanaa
namespace B
open Go.RowKit

theorem grown_trans {a b c : World} {r : Option Nat} (h : a.grownBy b r) (k : b.grownBy c r) : a.grownBy c r :=
  ⟨k.os.trans h.os, k.tape.trans h.tape, k.output.trans h.output, Nat.le_trans h.size k.size, fun i hi hne => (k.block i (Nat.lt_of_lt_of_le hi h.size) hne).trans (h.block i hi hne)⟩

theorem Ext.grownBy {a b : World} (h : Ext a b) (r : Option Nat) : a.grownBy b r := ⟨Below.os h, Below.tape h, Below.output h, Below.size h, fun k hk _ => Below.block h k hk⟩

/-- What a slice holds that was marked from k on. -/
def marks (n : Nat) (k : Int) : List Int := (List.range n).map fun i : Nat => k + (i : Int)
theorem marks_len (n : Nat) (k : Int) : (marks n k).length = n := by simp [marks]
theorem marks_at {n i : Nat} {k : Int} (h : i < n) : (marks n k)[i]? = some (k + (i : Int)) := by simp [marks, h]
theorem marks_succ (n : Nat) (k : Int) : marks (n + 1) k = marks n k ++ [k + (n : Int)] := by simp [marks, List.range_succ]
theorem marks_step {xs : List Int} {k : Nat} {k0 : Int} (h : k < xs.length) : (marks k k0 ++ xs.drop k).set k (k0 + (k : Int)) = marks (k + 1) k0 ++ xs.drop (k + 1) := by
  rw [List.set_append_right _ _ (by simp [marks]), marks_succ, List.drop_eq_getElem_cons h, marks_len, Nat.sub_self, List.set_cons_zero, List.append_assoc]
  rfl
theorem marks_get {xs : List Int} {k : Nat} {k0 : Int} (e : xs = marks xs.length k0) (h : k < xs.length) : xs[k] = k0 + (k : Int) := by
  have h1 : xs[k]? = some (k0 + (k : Int)) := by rw [e]; exact marks_at h
  rw [List.getElem?_eq_getElem h] at h1
  exact Option.some.inj h1
theorem all_snoc {α : Type} {p : α → Prop} {xs : List α} {k : Nat} (h : k < xs.length) (ha : ∀ x ∈ xs.take k, p x) (hk : p xs[k]) : ∀ x ∈ xs.take (k + 1), p x := by
  intro x hx
  rw [List.take_succ_eq_append_getElem h, List.mem_append, List.mem_singleton] at hx
  rcases hx with hx | rfl
  · exact ha x hx
  · exact hk
end B
end Go.Proofs.Ytgfaimkbedbanaa
