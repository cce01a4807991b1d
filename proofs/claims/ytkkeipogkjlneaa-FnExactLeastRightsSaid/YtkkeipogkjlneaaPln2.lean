/-
  How long the lists are that the functions on plans give.
-/
import Derived.Test.YtkkeipogkjlneaaPln
namespace Go.Proofs.Ytkkeipogkjlneaa
namespace B
open Go.RowKit
theorem kfV_len (ps : List Int) (ds : List Bool) (rs : List (List Int)) (d : Int) : (kfV ps ds rs d).length ≤ 10 := by
  unfold kfV
  split
  · rename_i h
    have := (pcC_zero.1 h).1.2.1.2
    exact Nat.le_trans (idxs_le _ _) this
  · simp
theorem dfV_len (ps : List Int) (ds : List Bool) (rs : List (List Int)) (k : Int) : (dfV ps ds rs k).length ≤ 24 := by
  unfold dfV
  split
  · rename_i h
    exact Nat.le_trans filter_le (drs_len (pkC_zero.1 h).1.1)
  · simp
theorem udV_len (ps : List Int) (ds : List Bool) (rs : List (List Int)) : (udV ps ds rs).length ≤ 24 := by
  unfold udV
  split
  · rename_i h
    exact Nat.le_trans filter_le (drs_len h.1)
  · simp
theorem shV_len (ps : List Int) (ds : List Bool) (rs : List (List Int)) (k : Int) : (shV ps ds rs k).length ≤ 24 := by
  unfold shV
  split
  · rename_i h
    obtain ⟨hp, hk⟩ := pkC_zero.1 h
    obtain ⟨hl, hr⟩ := row_at hk
    rw [hr]
    have h1 := rises_len (hp.2.2 _ (List.getElem_mem hl)).2
    have h2 := hp.1.1.1.2
    exact Nat.le_trans filter_le (Nat.le_trans h1 h2)
  · simp
theorem lrV_len (ps : List Int) (ds : List Bool) (rs : List (List Int)) (k : Int) : (lrV ps ds rs k).length ≤ 24 := by
  unfold lrV
  split
  · rename_i h
    have := (pkC_zero.1 h).1.1.1.1.2
    exact Nat.le_trans (idxs_le _ _) this
  · simp
theorem acL_tot (ps : List Int) (ds : List Bool) (h : (drs ps ds).length ≤ 24) : ∀ rs : List (List Int), tot (acL ps ds rs) ≤ 24 * rs.length
  | [] => by simp [acL, tot]
  | r :: rs => by
    have ih := acL_tot ps ds h rs
    have e : acL ps ds (r :: rs) = acRow ps r (drs ps ds) :: acL ps ds rs := rfl
    rw [e]
    simp only [tot, acRow_len, List.length_cons]
    omega
theorem acV_tot (ps : List Int) (ds : List Bool) (rs : List (List Int)) : tot (acV ps ds rs) ≤ 240 := by
  unfold acV
  split
  · rename_i h
    have := acL_tot ps ds (drs_len h.1) rs
    have := h.2.1.2
    omega
  · simp [tot]
end B
end Go.Proofs.Ytkkeipogkjlneaa
