/-
  All keys that begin with some cuts, and how many of them are allowed.
-/
import Derived.Test.YtaepdknmagaokaaWea
namespace Go.Proofs.Ytaepdknmagaokaa
namespace B
open Go.RowKit

def sumTo (f : Nat → Nat) : Nat → Nat
  | 0 => 0
  | k + 1 => sumTo f k + f k
theorem sumTo_congr {f g : Nat → Nat} : ∀ k, (∀ i, i < k → f i = g i) → sumTo f k = sumTo g k
  | 0, _ => rfl
  | k + 1, h => by simp only [sumTo]; rw [sumTo_congr k (fun i hi => h i (by omega)), h k (by omega)]
theorem sumTo_le {f : Nat → Nat} {b : Nat} : ∀ k, (∀ i, i < k → f i ≤ b) → sumTo f k ≤ k * b
  | 0, _ => by simp [sumTo]
  | k + 1, h => by
    have h1 := sumTo_le (f := f) (b := b) k (fun i hi => h i (by omega))
    have h2 := h k (by omega)
    simp only [sumTo]; rw [Nat.succ_mul]; omega

/-- Cuts that may begin a key. -/
def bgn (m : Mk) (ks : List Int) : Prop := steps m ks ks.length ∧ runs m ks ks.length
instance (m : Mk) (ks : List Int) : Decidable (bgn m ks) := by unfold bgn; infer_instance
/-- May a cut come next? -/
def nxt (m : Mk) (ks : List Int) (d : Int) : Prop := (0 < ks.length → max (d - ks.getD (ks.length - 1) 0) (-(d - ks.getD (ks.length - 1) 0)) ≤ m.st) ∧ (rn (ks ++ [d]) ks.length : Int) ≤ m.sm
instance (m : Mk) (ks : List Int) (d : Int) : Decidable (nxt m ks d) := by unfold nxt; infer_instance

theorem getD_app {ks : List Int} {d : Int} {i : Nat} (h : i < ks.length) : (ks ++ [d]).getD i 0 = ks.getD i 0 := by simp [List.getD, List.getElem?_append_left h]
theorem getD_last {ks : List Int} {d : Int} : (ks ++ [d]).getD ks.length 0 = d := by simp [List.getD]
theorem rn_app {ks : List Int} {d : Int} : ∀ i, i < ks.length → rn (ks ++ [d]) i = rn ks i
  | 0, _ => rfl
  | i + 1, h => by
    unfold rn
    rw [getD_app h, getD_app (by omega), rn_app i (by omega)]
theorem bgn_nil (m : Mk) : bgn m [] := ⟨fun i hi => absurd hi (Nat.not_lt_zero i), fun i hi => absurd hi (Nat.not_lt_zero i)⟩
theorem bgn_snoc {m : Mk} {ks : List Int} {d : Int} : bgn m (ks ++ [d]) ↔ bgn m ks ∧ nxt m ks d := by
  have hl : (ks ++ [d]).length = ks.length + 1 := by simp
  unfold bgn
  rw [hl]
  constructor
  · rintro ⟨h1, h2⟩
    refine ⟨⟨fun i hi h0 => ?_, fun i hi => ?_⟩, fun h0 => ?_, ?_⟩
    · have := h1 i (by omega) h0
      rw [getD_app hi, getD_app (by omega)] at this; exact this
    · have := h2 i (by omega)
      rw [rn_app i hi] at this; exact this
    · have := h1 ks.length (by omega) (by omega)
      rw [getD_last, getD_app (by omega)] at this; exact this
    · exact h2 ks.length (by omega)
  · rintro ⟨⟨h1, h2⟩, h3, h4⟩
    refine ⟨fun i hi h0 => ?_, fun i hi => ?_⟩
    · by_cases e : i = ks.length
      · subst e; rw [getD_last, getD_app (by omega)]; exact h3 (by omega)
      · rw [getD_app (by omega), getD_app (by omega)]; exact h1 i (by omega) h0
    · by_cases e : i = ks.length
      · subst e; exact h4
      · rw [rn_app i (by omega)]; exact h2 i (by omega)

/-- All keys that begin with some cuts, in their order. -/
def keysF (m : Mk) : Nat → List Int → List (List Int)
  | 0, ks => if bgn m ks ∧ m.le ≤ (kn ks ks.length : Int) then [ks] else []
  | n + 1, ks => if bgn m ks then (List.range m.dp.toNat).flatMap (fun d : Nat => keysF m n (ks ++ [(d : Int)])) else []
/-- How many of them have allowed cuts behind the first ones. -/
def cf (m : Mk) (al : Nat → Int → Prop) [∀ i d, Decidable (al i d)] : Nat → List Int → Nat
  | 0, ks => if m.le ≤ (kn ks ks.length : Int) then 1 else 0
  | n + 1, ks => sumTo (fun d => if al ks.length (d : Int) ∧ nxt m ks (d : Int) then cf m al n (ks ++ [(d : Int)]) else 0) m.dp.toNat

theorem flat_sum {α : Type} (f : Nat → List α) (p : α → Bool) : ∀ k, (((List.range k).flatMap f).filter p).length = sumTo (fun d => ((f d).filter p).length) k
  | 0 => rfl
  | k + 1 => by rw [List.range_succ, List.flatMap_append, List.filter_append, List.length_append, flat_sum f p k]; simp [sumTo]
theorem keysF_pre {m : Mk} : ∀ (n : Nat) (ks k : List Int), k ∈ keysF m n ks → k.length = ks.length + n ∧ ∀ i, i < ks.length → k.getD i 0 = ks.getD i 0
  | 0, ks, k, h => by
    unfold keysF at h
    split at h
    · obtain rfl : k = ks := by simpa using h
      exact ⟨rfl, fun _ _ => rfl⟩
    · simp at h
  | n + 1, ks, k, h => by
    unfold keysF at h
    split at h
    · obtain ⟨d, _, hk⟩ := List.mem_flatMap.1 h
      obtain ⟨h1, h2⟩ := keysF_pre n _ k hk
      refine ⟨by rw [h1]; simp; omega, fun i hi => ?_⟩
      rw [h2 i (by simp; omega), getD_app hi]
    · simp at h
theorem keysF_last {m : Mk} {n : Nat} {ks k : List Int} {d : Int} (h : k ∈ keysF m n (ks ++ [d])) : k.getD ks.length 0 = d := by
  rw [(keysF_pre n _ k h).2 ks.length (by simp), getD_last]
def alw (al : Nat → Int → Prop) [∀ i d, Decidable (al i d)] (j : Nat) (k : List Int) : Bool := decide (∀ i, i < k.length → j ≤ i → al i (k.getD i 0))
theorem cf_keys {m : Mk} {al : Nat → Int → Prop} [∀ i d, Decidable (al i d)] : ∀ (n : Nat) (ks : List Int), bgn m ks → cf m al n ks = ((keysF m n ks).filter (alw al ks.length)).length
  | 0, ks, hb => by
    unfold cf keysF
    by_cases h : m.le ≤ (kn ks ks.length : Int)
    · rw [if_pos h, if_pos ⟨hb, h⟩]
      have : alw al ks.length ks = true := decide_eq_true (fun i h1 h2 => by omega)
      simp [this]
    · rw [if_neg h, if_neg (fun hh => h hh.2)]; rfl
  | n + 1, ks, hb => by
    unfold cf keysF
    rw [if_pos hb, flat_sum]
    refine sumTo_congr _ (fun d _ => ?_)
    by_cases hn : nxt m ks (d : Int)
    · have hb2 := bgn_snoc.2 ⟨hb, hn⟩
      by_cases ha : al ks.length (d : Int)
      · rw [if_pos ⟨ha, hn⟩, cf_keys n _ hb2]
        congr 1
        refine List.filter_congr (fun k hk => ?_)
        have hl := keysF_last hk
        refine decide_eq_decide.2 ⟨fun h i h1 h2 => ?_, fun h i h1 h2 => h i h1 (by simp at h2; omega)⟩
        by_cases e : i = ks.length
        · subst e; rw [hl]; exact ha
        · exact h i h1 (by simp; omega)
      · rw [if_neg (fun hh => ha hh.1)]
        symm
        rw [List.length_eq_zero_iff, List.filter_eq_nil_iff]
        intro k hk
        have hl := keysF_last hk
        have hlen := (keysF_pre n _ k hk).1
        intro hh
        have := of_decide_eq_true hh ks.length (by rw [hlen]; simp; omega) (Nat.le_refl _)
        rw [hl] at this
        exact ha this
    · rw [if_neg (fun hh => hn hh.2)]
      have : keysF m n (ks ++ [(d : Int)]) = [] := by
        have hnb : ¬ bgn m (ks ++ [(d : Int)]) := fun hh => hn (bgn_snoc.1 hh).2
        cases n with
        | zero => unfold keysF; rw [if_neg (fun hh => hnb hh.1)]
        | succ n => unfold keysF; rw [if_neg hnb]
      rw [this]; rfl
theorem cf_le {m : Mk} {al : Nat → Int → Prop} [∀ i d, Decidable (al i d)] (h8 : m.dp ≤ 8) : ∀ (n : Nat) (ks : List Int), cf m al n ks ≤ 8 ^ n
  | 0, ks => by unfold cf; split <;> simp
  | n + 1, ks => by
    unfold cf
    refine Nat.le_trans (sumTo_le (b := 8 ^ n) _ (fun i _ => ?_)) ?_
    · split
      · exact cf_le h8 n _
      · exact Nat.zero_le _
    · rw [Nat.pow_succ, Nat.mul_comm]; exact Nat.mul_le_mul_left _ (by omega)
end B
end Go.Proofs.Ytaepdknmagaokaa
