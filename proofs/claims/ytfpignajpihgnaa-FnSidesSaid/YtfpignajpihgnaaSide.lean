/-
  Side codes: the plain side.
-/
import Derived.Test.YtfpignajpihgnaaNest
namespace Go.Proofs.Ytfpignajpihgnaa
namespace B
open Go.RowKit

def sdsys (s v : Int) : Prop := (1 ≤ s ∧ s ≤ 5) ∧ (2 ≤ v ∧ v ≤ 5)
instance (s v : Int) : Decidable (sdsys s v) := by unfold sdsys; infer_instance
def code (s v : Int) (xs : List Int) : Prop := (xs.length : Int) = s ∧ ∀ x ∈ xs, 0 ≤ x ∧ x ≤ v - 1
instance (s v : Int) (xs : List Int) : Decidable (code s v xs) := by unfold code; infer_instance

/-- A power. -/
def pw (b : Int) : Nat → Int
  | 0 => 1
  | e + 1 => pw b e * b
theorem pw_zero (b : Int) : pw b 0 = 1 := rfl
theorem pw_succ (b : Int) (e : Nat) : pw b (e + 1) = pw b e * b := rfl
theorem pw_pos {b : Int} (h : 2 ≤ b) : ∀ e, 1 ≤ pw b e
  | 0 => by rw [pw_zero]; omega
  | e + 1 => by
    rw [pw_succ]
    have h1 := pw_pos h e
    have := Int.mul_le_mul h1 (show (1 : Int) ≤ b by omega) (by omega) (by omega)
    simpa using this
theorem pw_le {b : Int} (h : 2 ≤ b) (h5 : b ≤ 5) : ∀ e, pw b e ≤ pw 5 e
  | 0 => by rw [pw_zero, pw_zero]; omega
  | e + 1 => by
    rw [pw_succ, pw_succ]
    have h1 := pw_pos (show (2 : Int) ≤ 5 by omega) e
    exact Int.mul_le_mul (pw_le h h5 e) h5 (by omega) (by omega)
theorem pw_small {b : Int} {e : Nat} (h : 2 ≤ b) (h5 : b ≤ 5) (he : e ≤ 6) : pw b e ≤ 15625 := by
  have h6 : ∀ e : _root_.Fin 7, pw 5 e.val ≤ 15625 := by decide
  exact Int.le_trans (pw_le h h5 e) (h6 ⟨e, by omega⟩)
theorem pw_step {b : Int} {e : Nat} (h : 2 ≤ b) (h5 : b ≤ 5) (he : e ≤ 5) : IntKind.i64.wrap (pw b e * b) = pw b (e + 1) := by
  have h1 := pw_small h h5 (show e + 1 ≤ 6 by omega)
  have h2 := pw_pos h (e + 1)
  rw [← pw_succ]
  exact IntWalk.i64_in _ (by omega)

/-- In how many of the first k places two lists differ. -/
def difTo (a b : List Int) : Nat → Nat
  | 0 => 0
  | k + 1 => difTo a b k + if a.getD k 0 = b.getD k 0 then 0 else 1
def dif (a b : List Int) : Nat := difTo a b a.length
theorem difTo_le (a b : List Int) : ∀ k, difTo a b k ≤ k
  | 0 => Nat.le_refl _
  | k + 1 => by have := difTo_le a b k; simp only [difTo]; split <;> omega
theorem difTo_comm (a b : List Int) : ∀ k, difTo a b k = difTo b a k
  | 0 => rfl
  | k + 1 => by
    simp only [difTo, difTo_comm a b k]
    by_cases h : a.getD k 0 = b.getD k 0
    · rw [if_pos h, if_pos h.symm]
    · rw [if_neg h, if_neg (fun e => h e.symm)]
theorem dif_comm {a b : List Int} (h : a.length = b.length) : dif a b = dif b a := by unfold dif; rw [h, difTo_comm]
theorem difTo_yes {a b : List Int} {k : Nat} (ha : k < a.length) (hb : k < b.length) (h : a[k] ≠ b[k]) : difTo a b (k + 1) = difTo a b k + 1 := by
  simp only [difTo, getD_lt ha, getD_lt hb, if_neg h]
theorem difTo_no {a b : List Int} {k : Nat} (ha : k < a.length) (hb : k < b.length) (h : a[k] = b[k]) : difTo a b (k + 1) = difTo a b k := by
  simp only [difTo, getD_lt ha, getD_lt hb, if_pos h, Nat.add_zero]

/-- The answers. -/
def csV (s v : Int) : Int := if sdsys s v then pw v s.toNat else 0
def csC (s v : Int) : Int := if sdsys s v then 0 else 2
def dis (s v d : Int) : Prop := sdsys s v ∧ 1 ≤ d ∧ d ≤ s
instance (s v d : Int) : Decidable (dis s v d) := by unfold dis; infer_instance
def fbV (s v d : Int) : Int := if dis s v d then pw v (s - d + 1).toNat else 0
def fbC (s v d : Int) : Int := if dis s v d then 0 else 2
/-- What the program says of a system, a distance and codes. -/
def scC (s v d : Int) (rs : List (List Int)) : Int := if dis s v d then (if ∀ r ∈ rs, code s v r then 0 else 1) else 2
def sdV (s v : Int) (a b : List Int) : Int := if sdsys s v ∧ code s v a ∧ code s v b then (dif a b : Int) else 0
def sdC (s v : Int) (a b : List Int) : Int := if sdsys s v then (if code s v a ∧ code s v b then 0 else 1) else 2
theorem scC_two (s v : Int) (a b : List Int) : scC s v 1 [a, b] = sdC s v a b := by
  unfold scC sdC
  by_cases h : sdsys s v
  · have hd : dis s v 1 := ⟨h, by omega, h.1.1⟩
    rw [if_pos h, if_pos hd]; simp
  · rw [if_neg h, if_neg (fun hd => h hd.1)]
theorem sdC_zero {s v : Int} {a b : List Int} (h : sdC s v a b = 0) : sdsys s v ∧ code s v a ∧ code s v b := by
  unfold sdC at h
  by_cases h1 : sdsys s v
  · rw [if_pos h1] at h
    by_cases h2 : code s v a ∧ code s v b
    · exact ⟨h1, h2⟩
    · rw [if_neg h2] at h; omega
  · rw [if_neg h1] at h; omega
theorem scC_nil (s v d : Int) : scC s v d [] = fbC s v d := by unfold scC fbC; simp
theorem scC_zero {s v d : Int} {rs : List (List Int)} : scC s v d rs = 0 ↔ dis s v d ∧ ∀ r ∈ rs, code s v r := by
  unfold scC
  by_cases h : dis s v d
  · rw [if_pos h]
    by_cases h2 : ∀ r ∈ rs, code s v r
    · rw [if_pos h2]; exact ⟨fun _ => ⟨h, h2⟩, fun _ => rfl⟩
    · rw [if_neg h2]; exact ⟨fun e => by simp at e, fun e => absurd e.2 h2⟩
  · rw [if_neg h]; exact ⟨fun e => by simp at e, fun e => absurd e.1 h⟩
end B
end Go.Proofs.Ytfpignajpihgnaa
