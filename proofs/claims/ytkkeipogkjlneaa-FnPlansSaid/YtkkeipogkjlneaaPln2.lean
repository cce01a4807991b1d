/-
  How long the lists are that the functions on plans give.
-/
import Derived.Test.YtkkeipogkjlneaaPln
namespace Go.Proofs.Ytkkeipogkjlneaa
namespace B
open Go.RowKit
theorem kfV_len (ps : List Int) (ds : List Bool) (rs : List (List Int)) (d : Int) : (kfV ps ds rs d).length ≤ 10 := by
  unfold kfV
  split
  · rename_i h
    have := (pcC_zero.1 h).1.2.1.2
    exact Nat.le_trans (idxs_le _ _) this
  · simp
theorem dfV_len (ps : List Int) (ds : List Bool) (rs : List (List Int)) (k : Int) : (dfV ps ds rs k).length ≤ 24 := by
  unfold dfV
  split
  · rename_i h
    exact Nat.le_trans filter_le (drs_len (pkC_zero.1 h).1.1)
  · simp
theorem udV_len (ps : List Int) (ds : List Bool) (rs : List (List Int)) : (udV ps ds rs).length ≤ 24 := by
  unfold udV
  split
  · rename_i h
    exact Nat.le_trans filter_le (drs_len h.1)
  · simp
theorem shV_len (ps : List Int) (ds : List Bool) (rs : List (List Int)) (k : Int) : (shV ps ds rs k).length ≤ 24 := by
  unfold shV
  split
  · rename_i h
    obtain ⟨hp, hk⟩ := pkC_zero.1 h
    obtain ⟨hl, hr⟩ := row_at hk
    rw [hr]
    have h1 := rises_len (hp.2.2 _ (List.getElem_mem hl)).2
    have h2 := hp.1.1.1.2
    exact Nat.le_trans filter_le (Nat.le_trans h1 h2)
  · simp
theorem lrV_len (ps : List Int) (ds : List Bool) (rs : List (List Int)) (k : Int) : (lrV ps ds rs k).length ≤ 24 := by
  unfold lrV
  split
  · rename_i h
    have := (pkC_zero.1 h).1.1.1.1.2
    exact Nat.le_trans (idxs_le _ _) this
  · simp
theorem acL_tot (ps : List Int) (ds : List Bool) (h : (drs ps ds).length ≤ 24) : ∀ rs : List (List Int), tot (acL ps ds rs) ≤ 24 * rs.length
  | [] => by simp [acL, tot]
  | r :: rs => by
    have ih := acL_tot ps ds h rs
    have e : acL ps ds (r :: rs) = acRow ps r (drs ps ds) :: acL ps ds rs := rfl
    rw [e]
    simp only [tot, acRow_len, List.length_cons]
    omega
theorem acV_tot (ps : List Int) (ds : List Bool) (rs : List (List Int)) : tot (acV ps ds rs) ≤ 240 := by
  unfold acV
  split
  · rename_i h
    have := acL_tot ps ds (drs_len h.1) rs
    have := h.2.1.2
    omega
  · simp [tot]
theorem akC_zero {ps : List Int} {ds : List Bool} {rs : List (List Int)} {ns : List Int} (h : akC ps ds rs ns = 0) : pln ps ds rs ∧ rts ps.length ns ∧ rs.length ≠ 10 := by
  unfold akC at h
  split at h
  · rename_i h1
    split at h
    · rename_i h2
      split at h
      · omega
      · rename_i h3; exact ⟨h1, h2, h3⟩
    · omega
  · omega
theorem tot_le {rs : List (List Int)} {m : Nat} (h : ∀ r ∈ rs, r.length ≤ m) : tot rs ≤ m * rs.length := by
  induction rs with
  | nil => simp [tot]
  | cons r rs ih =>
    have h1 := h r (by simp)
    have h2 := ih (fun x hx => h x (by simp [hx]))
    simp only [tot, List.length_cons, Nat.mul_add]
    omega
theorem akV_rights (ps : List Int) (ds : List Bool) (rs : List (List Int)) (ns : List Int) : tot (akV (akC ps ds rs ns) (rs ++ [ns])) ≤ 240 := by
  unfold akV
  split
  · rename_i h
    obtain ⟨hp, hn, h10⟩ := akC_zero h
    have h24 := hp.1.1.1.2
    have hr := hp.2.1.2
    have hall : ∀ r ∈ rs ++ [ns], r.length ≤ 24 := fun r hr => by
      rw [List.mem_append, List.mem_singleton] at hr
      rcases hr with hr | rfl
      · have := rises_len (hp.2.2 r hr).2; omega
      · have := rises_len hn.2; omega
    have := tot_le hall
    simp only [List.length_append, List.length_singleton] at this
    omega
  · simp [tot]
theorem akV_lens (ps : List Int) (ds : List Bool) (rs : List (List Int)) (ns : List Int) : (akV (akC ps ds rs ns) ps).length ≤ 24 ∧ (akV (akC ps ds rs ns) ds).length ≤ 24 := by
  unfold akV
  split
  · rename_i h
    obtain ⟨hp, hn, h10⟩ := akC_zero h
    have h24 := hp.1.1.1.2
    have hd := hp.1.1.2.1
    omega
  · simp
end B
end Go.Proofs.Ytkkeipogkjlneaa
