/-
  The plain side of CountExact and ExactBlank.
-/
import Derived.Test.YtgfaimkbedbanaaKey
namespace Go.Proofs.Ytgfaimkbedbanaa
namespace B
open Go.RowKit

/-- The first k of the wanted numbers are below i, the others are not. -/
def Rk (wa : List Int) (i k : Nat) : Prop := k ≤ wa.length ∧ (∀ j, j < k → wa.getD j 0 < (i : Int)) ∧ (∀ j, k ≤ j → j < wa.length → (i : Int) ≤ wa.getD j 0)
theorem Rk_zero {wa : List Int} {n : Int} (h : rises wa n) : Rk wa 0 0 := ⟨Nat.zero_le _, fun j hj => by omega, fun j _ hj => (h j hj).1⟩
theorem Rk_hit {wa : List Int} {n : Int} {i k : Nat} (h : rises wa n) (r : Rk wa i k) (hk : k < wa.length) (e : wa[k] = (i : Int)) : Rk wa (i + 1) (k + 1) := by
  have e' : wa.getD k 0 = (i : Int) := by rw [getD_lt hk, e]
  refine ⟨hk, fun j hj => ?_, fun j h1 h2 => ?_⟩
  · by_cases hjk : j = k
    · subst hjk; rw [e']; omega
    · have := r.2.1 j (by omega); omega
  · have := rises_mono h (j - k) k (by omega) (by omega)
    rw [show k + (j - k) = j from by omega, e'] at this
    omega
theorem Rk_miss {wa : List Int} {n : Int} {i k : Nat} (h : rises wa n) (r : Rk wa i k) (e : ∀ hk : k < wa.length, wa[k] ≠ (i : Int)) : Rk wa (i + 1) k := by
  refine ⟨r.1, fun j hj => by have := r.2.1 j hj; omega, fun j h1 h2 => ?_⟩
  have hk : k < wa.length := by omega
  have h3 := r.2.2 k (Nat.le_refl _) hk
  have h4 := e hk
  rw [getD_lt hk] at h3
  by_cases hjk : j = k
  · subst hjk; rw [getD_lt h2]; omega
  · have := rises_mono h (j - k) k (by omega) (by omega)
    rw [show k + (j - k) = j from by omega, getD_lt hk] at this
    omega
theorem mem_getD {wa : List Int} {x : Int} : x ∈ wa ↔ ∃ j, j < wa.length ∧ wa.getD j 0 = x := by
  constructor
  · intro h
    obtain ⟨j, hj, rfl⟩ := List.getElem_of_mem h
    exact ⟨j, hj, getD_lt hj⟩
  · rintro ⟨j, hj, rfl⟩
    rw [getD_lt hj]; exact List.getElem_mem hj
theorem Rk_mem {wa : List Int} {n : Int} {i k : Nat} (h : rises wa n) (r : Rk wa i k) (hk : k < wa.length) : wa[k] = (i : Int) ↔ (i : Int) ∈ wa := by
  constructor
  · intro e; rw [← e]; exact List.getElem_mem hk
  · intro hm
    obtain ⟨j, hj, e⟩ := mem_getD.1 hm
    have h1 : ¬ j < k := fun hjk => by have := r.2.1 j hjk; omega
    have h2 := r.2.2 k (Nat.le_refl _) hk
    rw [getD_lt hk] at h2
    by_cases hjk : j = k
    · subst hjk; rw [← getD_lt (d := 0) hk]; exact e
    · have := rises_mono h (j - k) k (by omega) (by omega)
      rw [show k + (j - k) = j from by omega, e, getD_lt hk] at this
      omega
theorem Rk_not {wa : List Int} {i k : Nat} (r : Rk wa i k) (hk : ¬ k < wa.length) : (i : Int) ∉ wa := by
  intro hm
  obtain ⟨j, hj, e⟩ := mem_getD.1 hm
  have := r.2.1 j (by omega)
  omega

/-- So far the blank enters exactly the wanted keyways. -/
def exF (b : Int) (ws wa : List Int) (i : Nat) : Bool := decide (∀ j, j < i → entAt b ws j = decide ((j : Int) ∈ wa))
theorem exF_succ (b : Int) (ws wa : List Int) (i : Nat) : exF b ws wa (i + 1) = (exF b ws wa i && (entAt b ws i == decide ((i : Int) ∈ wa))) := by
  unfold exF
  rw [Bool.eq_iff_iff]
  simp only [decide_eq_true_eq, Bool.and_eq_true, beq_iff_eq]
  constructor
  · intro h; exact ⟨fun j hj => h j (by omega), h i (by omega)⟩
  · rintro ⟨h1, h2⟩ j hj
    by_cases e : j = i
    · subst e; exact h2
    · exact h1 j (by omega)
theorem exF_yes {b : Int} {ws wa : List Int} {i : Nat} {p : Prop} [Decidable p] (hi : i < ws.length) (h : exF b ws wa i = true) (hp : p ↔ (i : Int) ∈ wa) : Value.bool (decide (ent b ws[i]) == decide p) = .bool (exF b ws wa (i + 1)) := by
  rw [exF_succ, h, Bool.true_and]
  unfold entAt
  rw [getD_lt hi]
  congr 2
  exact decide_eq_decide.2 hp
theorem exF_yes0 {b : Int} {ws wa : List Int} {i : Nat} (hi : i < ws.length) (h : exF b ws wa i = true) (hp : (i : Int) ∉ wa) : Value.bool (decide (ent b ws[i]) == false) = .bool (exF b ws wa (i + 1)) := by
  rw [exF_succ, h, Bool.true_and]
  unfold entAt
  rw [getD_lt hi, decide_eq_false hp]
theorem exF_no {b : Int} {ws wa : List Int} {i : Nat} (h : exF b ws wa i = false) : Value.bool false = .bool (exF b ws wa (i + 1)) := by
  rw [exF_succ, h, Bool.false_and]

/-- A rising list is the list of its numbers. -/
theorem rising_idxs : ∀ (n : Nat) (wa : List Int), rises wa (n : Int) → wa = idxs (fun j => decide ((j : Int) ∈ wa)) n
  | 0, wa, h => by
    cases wa with
    | nil => rfl
    | cons x xs => have := h 0 (by simp); simp at this; omega
  | n + 1, wa, h => by
    by_cases hm : ((n : Nat) : Int) ∈ wa
    · -- it is the last one
      obtain ⟨j, hj, e⟩ := mem_getD.1 hm
      have hlast : j + 1 = wa.length := by
        rcases Nat.lt_or_ge (j + 1) wa.length with h1 | h1
        · have h2 := rises_mono h 1 j (by omega) (by omega)
          have h3 := (h (j + 1) h1).2.1
          rw [e] at h2; omega
        · omega
      have hsplit : wa = wa.take j ++ [(n : Int)] := by
        have h1 := List.take_succ_eq_append_getElem (l := wa) (i := j) (by omega)
        rw [show wa.take (j + 1) = wa from by rw [hlast]; exact List.take_length] at h1
        rw [← getD_lt (d := 0) (by omega : j < wa.length), e] at h1
        exact h1
      have hr : rises (wa.take j) (n : Int) := by
        intro i hi
        simp only [List.length_take] at hi
        have h1 := h i (by omega)
        have h2 := rises_mono h (j - i) i (by omega) (by omega)
        rw [show i + (j - i) = j from by omega, e] at h2
        have g : ∀ t, t < j → (wa.take j).getD t 0 = wa.getD t 0 := fun t ht => by simp [List.getD, ht]
        rw [g i (by omega)]
        exact ⟨h1.1, h2, fun h0 => by rw [g (i - 1) (by omega)]; exact h1.2.2 h0⟩
      have ih := rising_idxs n (wa.take j) hr
      rw [idxs_yes (p := fun j => decide ((j : Int) ∈ wa)) (by simpa using hm)]
      have hc : idxs (fun t => decide ((t : Int) ∈ wa)) n = idxs (fun t => decide ((t : Int) ∈ wa.take j)) n := idxs_congr fun i hi => by
        refine decide_eq_decide.2 ⟨fun h1 => ?_, fun h1 => List.mem_of_mem_take h1⟩
        rw [hsplit, List.mem_append, List.mem_singleton] at h1
        rcases h1 with h1 | h1
        · exact h1
        · omega
      rw [hc, ← ih]
      exact hsplit
    · have hr : rises wa (n : Int) := fun i hi => by
        have h1 := h i hi
        refine ⟨h1.1, ?_, h1.2.2⟩
        have : wa.getD i 0 ≠ (n : Int) := fun e => hm (mem_getD.2 ⟨i, hi, e⟩)
        omega
      rw [idxs_no (p := fun j => decide ((j : Int) ∈ wa)) (by simpa using hm)]
      exact rising_idxs n wa hr

/-- The blank enters exactly the wanted keyways. -/
def pbx (ws wa : List Int) (b : Nat) : Bool := decide (waysOf (b : Int) ws = wa)
theorem exF_all {b : Nat} {ws wa : List Int} (h : rises wa (ws.length : Int)) : exF (b : Int) ws wa ws.length = pbx ws wa b := by
  have hw := rising_idxs ws.length wa h
  unfold exF pbx waysOf
  refine decide_eq_decide.2 ⟨fun h1 => ?_, fun h1 j hj => ?_⟩
  · exact Eq.trans (idxs_congr fun i hi => h1 i hi) hw.symm
  · rw [Bool.eq_iff_iff, decide_eq_true_eq]
    constructor
    · intro h2; rw [← h1]; exact mem_idxs.2 ⟨j, hj, h2, rfl⟩
    · intro h2
      rw [← h1] at h2
      obtain ⟨i, _, h3, e⟩ := mem_idxs.1 h2
      have : j = i := by omega
      subst this; exact h3

def lstF (l : List Int) : Int := l.head?.getD (-1)
theorem lstF_app {l : List Int} {x : Int} (h : 0 ≤ lstF l) : lstF (l ++ [x]) = lstF l := by cases l <;> simp_all [lstF]
theorem lstF_nil {l : List Int} {x : Int} (h : lstF l < 0) (hp : ∀ y ∈ l, 0 ≤ y) : lstF (l ++ [x]) = x := by
  cases l with
  | nil => simp [lstF]
  | cons y l => have := hp y (by simp); simp [lstF] at h; omega
theorem idxs_nonneg (p : Nat → Bool) (k : Nat) : ∀ y ∈ idxs p k, 0 ≤ y := by
  intro y hy; obtain ⟨i, _, _, rfl⟩ := mem_idxs.1 hy; omega
theorem lstF_neg {l : List Int} (hp : ∀ y ∈ l, 0 ≤ y) : lstF l < 0 ↔ l.length = 0 := by
  cases l with
  | nil => simp [lstF]
  | cons y l => have := hp y (by simp); simp [lstF]; omega

theorem lstF_first {l : List Int} (h : 0 < l.length) : lstF l = l[0] := by cases l with
  | nil => simp at h
  | cons y l => rfl

def xOk (ws wa : List Int) : Prop := waysOk ws ∧ rises wa (ws.length : Int)
instance (ws wa : List Int) : Decidable (xOk ws wa) := by unfold xOk; infer_instance
/-- 4096, not to be unfolded. -/
@[irreducible] def K4 : Nat := 4096
theorem K4_eq : K4 = 4096 := by unfold K4; rfl
def xL (ws wa : List Int) : List Int := idxs (pbx ws wa) K4
def ceV (ws wa : List Int) : Int := if xOk ws wa then ((xL ws wa).length : Int) else 0
def ceC (ws wa : List Int) : Int := if xOk ws wa then 0 else 2
def ebV (ws wa : List Int) : Int := if xOk ws wa ∧ (xL ws wa).length ≠ 0 then lstF (xL ws wa) else 0
def ebC (ws wa : List Int) : Int := if xOk ws wa then (if (xL ws wa).length = 0 then 4 else 0) else 2
end B
end Go.Proofs.Ytgfaimkbedbanaa
