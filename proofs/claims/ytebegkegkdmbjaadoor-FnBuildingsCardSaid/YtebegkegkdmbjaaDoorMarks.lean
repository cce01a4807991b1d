/-
  What 'mark' writes into slices of bool, and what 'held' finds there.
-/
import Derived.Test.YtebegkegkdmbjaaDoorNest
namespace Go.Proofs.YtebegkegkdmbjaaDoor
namespace B
def mb (k : Int) : Bool := decide (k.tmod 3 = 0)
def marksB (n : Nat) (k : Int) : List Bool := (List.range n).map fun i : Nat => mb (k + (i : Int))
theorem marksB_len (n : Nat) (k : Int) : (marksB n k).length = n := by simp [marksB]
theorem marksB_succ (n : Nat) (k : Int) : marksB (n + 1) k = marksB n k ++ [mb (k + (n : Int))] := by simp [marksB, List.range_succ]
theorem marksB_step {xs : List Bool} {k : Nat} {k0 : Int} (h : k < xs.length) : (marksB k k0 ++ xs.drop k).set k (mb (k0 + (k : Int))) = marksB (k + 1) k0 ++ xs.drop (k + 1) := by
  rw [List.set_append_right _ _ (by simp [marksB]), marksB_succ, List.drop_eq_getElem_cons h, marksB_len, Nat.sub_self, List.set_cons_zero, List.append_assoc]
  rfl
theorem marksB_get {xs : List Bool} {k : Nat} {k0 : Int} (e : xs = marksB xs.length k0) (h : k < xs.length) : xs[k] = mb (k0 + (k : Int)) := by
  have h1 : xs[k]? = some (mb (k0 + (k : Int))) := by rw [e]; simp [marksB, h]
  rw [List.getElem?_eq_getElem h] at h1
  exact Option.some.inj h1
/-- What 'held' answers for a list of bools, a building, a plan. -/
def heldBl (xs : List Bool) (k : Int) : Int := if xs = marksB xs.length k then k + xs.length else -1
theorem heldBl_marks (n : Nat) (k : Int) : heldBl (marksB n k) k = k + n := by unfold heldBl; rw [marksB_len, if_pos rfl]
def heldBd (ps : List Int) (ds : List Bool) (k : Int) : Int := if heldI ps k < 0 then -1 else if heldBl ds (heldI ps k) < 0 then -1 else heldBl ds (heldI ps k)
theorem heldBd_marks {n m : Nat} {k : Int} (h : 0 ≤ k) : heldBd (marks n k) (marksB m (k + n)) k = k + n + m := by
  unfold heldBd
  rw [heldI_marks, if_neg (by omega), heldBl_marks, if_neg (by omega)]
def heldPl (ps : List Int) (ds : List Bool) (rs : List (List Int)) (k : Int) : Int := if heldBd ps ds k < 0 then -1 else if heldN rs (heldBd ps ds k) < 0 then -1 else heldN rs (heldBd ps ds k)
theorem heldPl_marks {n m : Nat} {rs : List (List Int)} {k : Int} (h : 0 ≤ k) : heldPl (marks n k) (marksB m (k + n)) (marksN rs (k + n + m)) k = k + n + m + (tot rs : Nat) := by
  unfold heldPl
  rw [heldBd_marks h, if_neg (by omega), heldN_marks _ _ (by omega), if_neg (by omega)]
theorem heldBl_range (r : List Bool) (k : Int) : heldBl r k = -1 ∨ heldBl r k = k + r.length := by
  unfold heldBl; split
  · exact .inr rfl
  · exact .inl rfl
theorem heldBd_range {ps : List Int} {ds : List Bool} {k : Int} : heldBd ps ds k = -1 ∨ (heldBd ps ds k = k + ps.length + ds.length) := by
  unfold heldBd
  rcases heldI_range ps k with h | h <;> rw [h]
  · left; rw [if_pos (by omega)]
  · split
    · exact .inl rfl
    · rcases heldBl_range ds (k + ps.length) with h2 | h2 <;> rw [h2]
      · left; rw [if_pos (by omega)]
      · split
        · exact .inl rfl
        · exact .inr rfl
end B
end Go.Proofs.YtebegkegkdmbjaaDoor
