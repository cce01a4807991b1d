/-
  Tables of access: the plain side.
-/
import Derived.Test.YtaabfkcbkcmneaaNest
namespace Go.Proofs.Ytaabfkcbkcmneaa
namespace B
open Go.RowKit

def zo (r : List Int) : Prop := ∀ x ∈ r, 0 ≤ x ∧ x ≤ 1
instance (r : List Int) : Decidable (zo r) := by unfold zo; infer_instance
def tblRow (m : Nat) (r : List Int) : Prop := r.length = m ∧ (1 ≤ r.length ∧ r.length ≤ 12) ∧ zo r
instance (m : Nat) (r : List Int) : Decidable (tblRow m r) := by unfold tblRow; infer_instance
def tblM (rs : List (List Int)) : Nat := (rs.getD 0 []).length
def tbl (rs : List (List Int)) : Prop := (1 ≤ rs.length ∧ rs.length ≤ 10) ∧ ∀ r ∈ rs, tblRow (tblM rs) r
instance (rs : List (List Int)) : Decidable (tbl rs) := by unfold tbl; infer_instance

/-- The places that hold a 1 in both rows. -/
def both (a b : List Int) (k : Nat) : Bool := decide (a.getD k 0 = 1 ∧ b.getD k 0 = 1)
def common (a b : List Int) : List Int := idxs (both a b) a.length
def sumTo (a : List Int) : Nat → Int
  | 0 => 0
  | k + 1 => sumTo a k + a.getD k 0
def sumL (a : List Int) : Int := sumTo a a.length
def innTo (a b : List Int) (k : Nat) : Prop := ∀ j, j < k → a.getD j 0 ≤ b.getD j 0
instance (a b : List Int) (k : Nat) : Decidable (innTo a b k) := by unfold innTo; infer_instance
def inn (a b : List Int) : Prop := innTo a b a.length
instance (a b : List Int) : Decidable (inn a b) := by unfold inn; infer_instance

theorem zo_get {a : List Int} (h : zo a) (k : Nat) : 0 ≤ a.getD k 0 ∧ a.getD k 0 ≤ 1 := by
  by_cases hk : k < a.length
  · rw [getD_lt hk]; exact h _ (List.getElem_mem hk)
  · have : a.getD k 0 = 0 := by simp [List.getD, List.getElem?_eq_none (show a.length ≤ k by omega)]
    omega
theorem sumTo_range {a : List Int} (h : zo a) : ∀ k, 0 ≤ sumTo a k ∧ sumTo a k ≤ k
  | 0 => by simp [sumTo]
  | k + 1 => by
    have h1 := sumTo_range h k
    have h2 := zo_get h k
    simp only [sumTo]; omega
theorem common_sum {a b : List Int} (ha : zo a) (hb : zo b) : ∀ k, ((idxs (both a b) k).length : Int) ≤ sumTo a k ∧ (((idxs (both a b) k).length : Int) = sumTo a k ↔ innTo a b k)
  | 0 => by simp [idxs, sumTo, innTo]
  | k + 1 => by
    obtain ⟨h1, h2⟩ := common_sum ha hb k
    have h3 := zo_get ha k
    have h4 := zo_get hb k
    have h5 : innTo a b (k + 1) ↔ innTo a b k ∧ a.getD k 0 ≤ b.getD k 0 := by
      constructor
      · intro h; exact ⟨fun j hj => h j (by omega), h k (by omega)⟩
      · rintro ⟨h, h'⟩ j hj
        by_cases e : j = k
        · subst e; exact h'
        · exact h j (by omega)
    by_cases hp : both a b k = true
    · rw [idxs_yes hp, List.length_append, List.length_singleton]
      have hp' : a.getD k 0 = 1 ∧ b.getD k 0 = 1 := by simpa only [both, decide_eq_true_eq] using hp
      simp only [sumTo]
      refine ⟨by omega, ?_⟩
      rw [h5, ← h2]
      constructor
      · intro h; exact ⟨by omega, by omega⟩
      · rintro ⟨h, _⟩; omega
    · have hp' : ¬ (a.getD k 0 = 1 ∧ b.getD k 0 = 1) := by simpa only [both, decide_eq_true_eq] using hp
      rw [idxs_no (by simpa using hp)]
      simp only [sumTo]
      refine ⟨by omega, ?_⟩
      rw [h5, ← h2]
      constructor
      · intro h
        have : a.getD k 0 = 0 := by omega
        exact ⟨by omega, by omega⟩
      · rintro ⟨h, h'⟩
        have : a.getD k 0 = 0 := by omega
        omega
theorem innTo_succ {a b : List Int} {k : Nat} (h : innTo a b k) (h2 : a.getD k 0 ≤ b.getD k 0) : innTo a b (k + 1) := by
  intro j hj
  by_cases e : j = k
  · subst e; exact h2
  · exact h j (by omega)
theorem common_eq {a b : List Int} (ha : zo a) (hb : zo b) : ((common a b).length : Int) = sumL a ↔ inn a b := (common_sum ha hb a.length).2
theorem common_comm {a b : List Int} (h : a.length = b.length) : common a b = common b a := by
  unfold common
  rw [h]
  exact idxs_congr fun i _ => by unfold both; simp only [And.comm]

/-- Two rows of which neither is in the other, though they have a place in common. -/
def bad (a b : List Int) : Prop := (¬ inn a b ∧ ¬ inn b a) ∧ 0 < (common a b).length
instance (a b : List Int) : Decidable (bad a b) := by unfold bad; infer_instance
theorem bad_comm {a b : List Int} (h : a.length = b.length) : bad a b ↔ bad b a := by unfold bad; rw [common_comm h, and_comm (a := ¬ inn a b)]
theorem bad_self (a : List Int) : ¬ bad a a := fun h => h.1.1 (fun _ _ => Int.le_refl _)
def hier (rs : List (List Int)) : Prop := ∀ i, i < rs.length → ∀ k, k < rs.length → ¬ bad (rs.getD i []) (rs.getD k [])
instance (rs : List (List Int)) : Decidable (hier rs) := by unfold hier; infer_instance
theorem hier_of {rs : List (List Int)} (ht : tbl rs) (h : ∀ i, i < rs.length → ∀ k, k < i → ¬ bad (rs.getD i []) (rs.getD k [])) : hier rs := by
  intro i hi k hk hb
  have hl : ∀ j, j < rs.length → (rs.getD j []).length = tblM rs := fun j hj => by rw [getD_lt hj]; exact (ht.2 _ (List.getElem_mem hj)).1
  rcases Nat.lt_trichotomy k i with h1 | h1 | h1
  · exact h i hi k h1 hb
  · subst h1; exact bad_self _ hb
  · exact h k hk i h1 ((bad_comm (by rw [hl i hi, hl k hk])).1 hb)

/-- The codes. -/
def tcC (rs : List (List Int)) (ks : List Int) : Int := if tbl rs then (if ∀ x ∈ ks, 0 ≤ x ∧ x ≤ (rs.length : Int) - 1 then 0 else 2) else 1
theorem tcC_zero {rs : List (List Int)} {ks : List Int} : tcC rs ks = 0 ↔ tbl rs ∧ ∀ x ∈ ks, 0 ≤ x ∧ x ≤ (rs.length : Int) - 1 := by
  unfold tcC
  by_cases h : tbl rs
  · rw [if_pos h]
    by_cases h2 : ∀ x ∈ ks, 0 ≤ x ∧ x ≤ (rs.length : Int) - 1
    · rw [if_pos h2]; exact ⟨fun _ => ⟨h, h2⟩, fun _ => rfl⟩
    · rw [if_neg h2]; exact ⟨fun e => by simp at e, fun e => absurd e.2 h2⟩
  · rw [if_neg h]; exact ⟨fun e => by simp at e, fun e => absurd e.1 h⟩
def cdV (rs : List (List Int)) (k : Int) : Int := if tcC rs [k] = 0 then sumL (rs.getD k.toNat []) else 0
def dcV (rs : List (List Int)) (a b : Int) : List Int := if tcC rs [a, b] = 0 then common (rs.getD a.toNat []) (rs.getD b.toNat []) else []
theorem tcC_two {rs : List (List Int)} {a b : Int} : tcC rs [a, b] = if tcC rs [a] = 0 then tcC rs [b] else tcC rs [a] := by
  unfold tcC
  by_cases h : tbl rs
  · simp only [if_pos h, List.mem_cons, List.not_mem_nil, or_false, forall_eq_or_imp, forall_eq]
    by_cases ha : 0 ≤ a ∧ a ≤ (rs.length : Int) - 1
    · simp only [ha, true_and, if_true]
    · simp only [ha, false_and, if_false]
      simp
  · simp [h]
theorem dcV_len (rs : List (List Int)) (a b : Int) : (dcV rs a b).length ≤ 12 := by
  unfold dcV
  split
  · rename_i h
    obtain ⟨ht, hk⟩ := tcC_zero.1 h
    have h1 := hk a (by simp)
    have h2 := idxs_le (both (rs.getD a.toNat []) (rs.getD b.toNat [])) (rs.getD a.toNat []).length
    have h3 : a.toNat < rs.length := by omega
    have h4 := (ht.2 _ (List.getElem_mem h3)).2.1.2
    rw [getD_lt h3] at h2
    unfold common
    rw [getD_lt h3]
    omega
  · simp

/-- The table turned: its columns. -/
def col (rs : List (List Int)) (k : Nat) : List Int := rs.map fun r => r.getD k 0
def turn (rs : List (List Int)) : List (List Int) := (List.range (tblM rs)).map (col rs)
def ttV (rs : List (List Int)) : List (List Int) := if tbl rs then turn rs else []
def ttC (rs : List (List Int)) : Int := if tbl rs then 0 else 1
theorem ttC_eq (rs : List (List Int)) : tcC rs [] = ttC rs := by unfold tcC ttC; simp
theorem turn_snoc (rs : List (List Int)) (k : Nat) : (List.range (k + 1)).map (col rs) = (List.range k).map (col rs) ++ [col rs k] := by simp [List.range_succ]
theorem col_snoc {rs : List (List Int)} {i k : Nat} (h : i < rs.length) : (rs.take (i + 1)).map (fun r => r.getD k 0) = (rs.take i).map (fun r => r.getD k 0) ++ [rs[i].getD k 0] := by
  rw [List.take_succ_eq_append_getElem h, List.map_append]; rfl
theorem tbl_m {rs : List (List Int)} (h : tbl rs) : 1 ≤ tblM rs ∧ tblM rs ≤ 12 := by
  have h0 : 0 < rs.length := h.1.1
  have h1 := h.2 _ (List.getElem_mem h0)
  have h2 := h1.1
  have h3 := h1.2.1
  omega
theorem tot_le' {α : Type} {n : Nat} : ∀ {rs : List (List α)}, (∀ r ∈ rs, r.length ≤ n) → tot rs ≤ rs.length * n
  | [], _ => by simp [tot]
  | r :: rs, h => by
    have h1 := h r (by simp)
    have h2 := tot_le' (rs := rs) (fun s hs => h s (by simp [hs]))
    simp only [tot, List.length_cons, Nat.succ_mul]; omega
theorem ttV_tot (rs : List (List Int)) : tot (ttV rs) ≤ 120 := by
  unfold ttV
  split
  · rename_i h
    have h1 := tot_le' (n := 10) (rs := turn rs) (fun r hr => by
      simp only [turn, List.mem_map, List.mem_range] at hr
      obtain ⟨k, _, rfl⟩ := hr
      simp only [col, List.length_map]; exact h.1.2)
    have h2 : (turn rs).length = tblM rs := by simp [turn]
    have h3 := tbl_m h
    exact Nat.le_trans h1 (by rw [h2]; omega)
  · simp [tot]
end B
end Go.Proofs.Ytaabfkcbkcmneaa
