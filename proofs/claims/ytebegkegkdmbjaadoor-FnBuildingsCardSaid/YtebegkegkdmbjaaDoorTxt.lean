/-
  Texts of buildings, in plain terms.
-/
import Derived.Test.YtebegkegkdmbjaaDoorBld
import Derived.Test.YtebegkegkdmbjaaDoorMem
import Derived.Lib.ItoaMem
import Derived.Lib.ItoaLen
import Derived.Lib.Join
namespace Go.Proofs.YtebegkegkdmbjaaDoor
namespace B
open Go.RowKit

/-- A slice's cells that are texts. -/
def strs (l : List (List UInt8)) : List Value := l.map fun b => Value.string ⟨b.toArray⟩
theorem strs_len (l : List (List UInt8)) : (strs l).length = l.length := by simp [strs]
theorem strs_app (l m : List (List UInt8)) : strs l ++ strs m = strs (l ++ m) := by simp [strs]
theorem strs_one (l : List (List UInt8)) : ∀ x ∈ strs l, x.oneCell' = true := by
  intro x hx
  obtain ⟨b, _, rfl⟩ := List.mem_map.1 hx
  rfl
theorem strs_at {l : List (List UInt8)} {k : Nat} (h : k < l.length) : (strs l)[k]? = some (.string ⟨l[k].toArray⟩) := by simp [strs, h]
theorem strs_drop (l : List (List UInt8)) (k : Nat) : (strs l).drop k = strs (l.drop k) := by simp [strs]

/-- One node's word. -/
def word (p : Int) (d : Bool) : List UInt8 := Lib.itoa p ++ [if d = true then 100 else 103]
/-- The words of the nodes behind the root, and of all nodes. -/
def wds (ps : List Int) (ds : List Bool) : Nat → List (List UInt8)
  | 0 => []
  | k + 1 => if k = 0 then [] else wds ps ds k ++ [word (par ps k) (isD ds k)]
def aws (ps : List Int) (ds : List Bool) : Nat → List (List UInt8)
  | 0 => []
  | k + 1 => aws ps ds k ++ [word (par ps k) (isD ds k)]
theorem aws_len (ps : List Int) (ds : List Bool) : ∀ k, (aws ps ds k).length = k
  | 0 => rfl
  | k + 1 => by simp [aws, aws_len ps ds k]
theorem aws_drop (ps : List Int) (ds : List Bool) : ∀ k, (aws ps ds k).drop 1 = wds ps ds k
  | 0 => rfl
  | k + 1 => by
    unfold aws wds
    by_cases h : k = 0
    · subst h; rw [if_pos rfl]; rfl
    · rw [if_neg h, List.drop_append_of_le_length (by rw [aws_len]; omega), aws_drop ps ds k]
theorem wds_one (ps : List Int) (ds : List Bool) : wds ps ds 1 = [] := by unfold wds; rw [if_pos rfl]
theorem wds_succ {ps : List Int} {ds : List Bool} {k : Nat} (h : 1 ≤ k) : wds ps ds (k + 1) = wds ps ds k ++ [word (par ps k) (isD ds k)] := by
  conv => lhs; unfold wds
  rw [if_neg (by omega)]
theorem wds_len (ps : List Int) (ds : List Bool) : ∀ k, (wds ps ds k).length = k - 1
  | 0 => rfl
  | k + 1 => by
    by_cases h : k = 0
    · subst h; rw [wds_one]; rfl
    · rw [wds_succ (by omega), List.length_append, wds_len ps ds k]; simp; omega
theorem join_snoc {xs : List (List UInt8)} {y sep : List UInt8} (h : xs ≠ []) : Lib.join (xs ++ [y]) sep = Lib.join xs sep ++ sep ++ y := by
  cases xs with
  | nil => exact absurd rfl h
  | cons x r =>
    rw [List.cons_append, Lib.join_cons, Lib.join_cons]
    simp [Lib.joinTail, List.append_assoc]
theorem join_count : ∀ xs : List (List UInt8), xs.length ≤ (Lib.join xs [32]).length + 1
  | [] => by simp
  | x :: r => by
    rw [Lib.join_cons, List.length_append]
    have : ∀ r : List (List UInt8), r.length ≤ (Lib.joinTail [32] r).length := fun r => by
      induction r with
      | nil => simp
      | cons y r ih => simp [Lib.joinTail] at ih ⊢; omega
    have := this r
    simp; omega
/-- The text of a building. -/
def btx (ps : List Int) (ds : List Bool) (k : Nat) : List UInt8 := Lib.join (wds ps ds k) [32]
theorem btx_one (ps : List Int) (ds : List Bool) : btx ps ds 1 = [] := by unfold btx; rw [wds_one]; rfl
theorem btx_two {ps : List Int} {ds : List Bool} : btx ps ds (1 + 1) = btx ps ds 1 ++ word (par ps 1) (isD ds 1) := by
  rw [btx_one]; unfold btx; rw [wds_succ (Nat.le_refl 1), wds_one]; simp [Lib.join_one]
theorem btx_more {ps : List Int} {ds : List Bool} {k : Nat} (h : 1 < k) : btx ps ds (k + 1) = btx ps ds k ++ [32] ++ word (par ps k) (isD ds k) := by
  unfold btx; rw [wds_succ (by omega), join_snoc (fun e => by have := wds_len ps ds k; rw [e] at this; simp at this; omega)]
theorem word_len {p : Int} {d : Bool} (h : -1000 ≤ p ∧ p ≤ 1000) : (word p d).length ≤ 22 := by
  have := Lib.itoa_length_le p (by omega) (by omega)
  unfold word; rw [List.length_append]; simp; omega
theorem btx_len {ps : List Int} {ds : List Bool} (hb : ∀ i, i < ps.length → -1000 ≤ par ps i ∧ par ps i ≤ 1000) : ∀ k, k ≤ ps.length → (btx ps ds k).length ≤ 23 * k
  | 0, _ => by simp [btx, wds, Lib.join_nil]
  | k + 1, h => by
    have h1 := btx_len (ds := ds) hb k (by omega)
    have h2 := word_len (d := isD ds k) (hb k (by omega))
    by_cases e0 : k = 0
    · subst e0; rw [btx_one]; simp
    · by_cases e1 : k = 1
      · subst e1; rw [btx_two, List.length_append]; rw [btx_one]; simp; omega
      · rw [btx_more (by omega), List.length_append, List.length_append]; simp; omega
def btC (ps : List Int) (ds : List Bool) : Int := if bld ps ds then 0 else 1
def btV (ps : List Int) (ds : List Bool) : List UInt8 := if bld ps ds then btx ps ds ps.length else []
theorem ncC_nil {ps : List Int} {ds : List Bool} : ncC ps ds [] = btC ps ds := by
  unfold ncC btC
  by_cases h : bld ps ds
  · rw [if_pos h, if_pos h, if_pos (fun x hx => by simp at hx)]
  · rw [if_neg h, if_neg h]
theorem btC_zero {ps : List Int} {ds : List Bool} : btC ps ds = 0 ↔ bld ps ds := by
  unfold btC
  by_cases h : bld ps ds
  · rw [if_pos h]; exact ⟨fun _ => h, fun _ => rfl⟩
  · rw [if_neg h]; exact ⟨fun e => by omega, fun e => absurd e h⟩
theorem bld_par {ps : List Int} {ds : List Bool} (h : bld ps ds) {i : Nat} (hi : i < ps.length) : -1 ≤ par ps i ∧ par ps i ≤ 22 ∧ (1 ≤ i → 0 ≤ par ps i) := by
  have h1 := h.1.1
  by_cases e : i = 0
  · subst e; have := h.1.2.2.1; omega
  · have := (h.2.1 i hi (by omega)).1; omega
theorem bld_small {ps : List Int} {ds : List Bool} (h : bld ps ds) : ∀ i, i < ps.length → -1000 ≤ par ps i ∧ par ps i ≤ 1000 := fun i hi => by have := bld_par h hi; omega
theorem dec_step {n : Nat} (h : ¬ n < 10) : Lib.decDigits n = Lib.decDigits (n / 10) ++ [UInt8.ofNat (48 + n % 10)] := by
  conv => lhs; rw [Lib.decDigits]
  rw [dif_neg h]
end B
end Go.Proofs.YtebegkegkdmbjaaDoor
