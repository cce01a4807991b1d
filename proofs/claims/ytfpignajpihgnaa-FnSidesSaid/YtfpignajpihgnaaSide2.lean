/-
  Families of side codes: the plain side.
-/
import Derived.Test.YtfpignajpihgnaaSide
namespace Go.Proofs.Ytfpignajpihgnaa
namespace B
open Go.RowKit

/-- A number after k divisions, and its last k digits. -/
def quoN (v n : Nat) : Nat → Nat
  | 0 => n
  | k + 1 => quoN v n k / v
def sufD (v n : Nat) : Nat → List Int
  | 0 => []
  | k + 1 => ((quoN v n k % v : Nat) : Int) :: sufD v n k
theorem sufD_len (v n : Nat) : ∀ k, (sufD v n k).length = k
  | 0 => rfl
  | k + 1 => by simp [sufD, sufD_len v n k]
/-- The side code with a number. -/
def dig (s v n : Nat) : List Int := sufD v n s
theorem dig_len (s v n : Nat) : (dig s v n).length = s := sufD_len v n s
theorem sufD_mem {v n : Nat} (hv : 0 < v) : ∀ k x, x ∈ sufD v n k → 0 ≤ x ∧ x ≤ (v : Int) - 1
  | 0, x, h => by simp [sufD] at h
  | k + 1, x, h => by
    simp only [sufD, List.mem_cons] at h
    rcases h with rfl | h
    · have := Nat.mod_lt (quoN v n k) hv; omega
    · exact sufD_mem hv k x h
theorem dig_code {s v n : Nat} (hv : 0 < v) : code (s : Int) (v : Int) (dig s v n) := ⟨by rw [dig_len], fun x hx => sufD_mem hv s x hx⟩
theorem dig_step {s v n k : Nat} (h : k < s) : (List.replicate (s - k) (0 : Int) ++ sufD v n k).set (s - (k + 1)) ((quoN v n k % v : Nat) : Int) = List.replicate (s - (k + 1)) 0 ++ sufD v n (k + 1) := by
  have e : s - k = (s - (k + 1)) + 1 := by omega
  rw [e, List.replicate_succ', List.append_assoc, List.set_append_right _ _ (by simp), List.length_replicate, Nat.sub_self]
  rfl
theorem quoN_lt {v n : Nat} (hv : 0 < v) : ∀ k, quoN v n k = n / v ^ k
  | 0 => by simp [quoN]
  | k + 1 => by rw [quoN, quoN_lt hv k, Nat.div_div_eq_div_mul, Nat.pow_succ]
theorem quoN_le {v n : Nat} (hv : 0 < v) (k : Nat) : quoN v n k ≤ n := by rw [quoN_lt hv]; exact Nat.div_le_self _ _
theorem sufD_inj {v n m : Nat} : ∀ k, sufD v n k = sufD v m k → quoN v n k = quoN v m k → n = m
  | 0, _, h => h
  | k + 1, h, hq => by
    simp only [sufD, List.cons.injEq] at h
    have h1 : quoN v n k % v = quoN v m k % v := by have := h.1; omega
    simp only [quoN] at hq
    refine sufD_inj k h.2 ?_
    rw [← Nat.div_add_mod (quoN v n k) v, ← Nat.div_add_mod (quoN v m k) v, hq, h1]
theorem dig_inj {s v n m : Nat} (hv : 0 < v) (hn : n < v ^ s) (hm : m < v ^ s) (h : dig s v n = dig s v m) : n = m :=
  sufD_inj s h (by rw [quoN_lt hv, quoN_lt hv, Nat.div_eq_of_lt hn, Nat.div_eq_of_lt hm])
theorem pw_nat (v : Nat) : ∀ k, pw (v : Int) k = ((v ^ k : Nat) : Int)
  | 0 => rfl
  | k + 1 => by rw [pw_succ, pw_nat v k, Nat.pow_succ]; simp

theorem dif_zero {a b : List Int} (hl : a.length = b.length) (h : dif a b = 0) : a = b := by
  have key : ∀ k, difTo a b k = 0 → ∀ i, i < k → a.getD i 0 = b.getD i 0 := by
    intro k
    induction k with
    | zero => intro _ i hi; omega
    | succ k ih =>
      intro hk i hi
      simp only [difTo] at hk
      by_cases e : a.getD k 0 = b.getD k 0
      · rw [if_pos e] at hk
        by_cases hik : i = k
        · subst hik; exact e
        · exact ih (by omega) i (by omega)
      · rw [if_neg e] at hk; omega
  apply List.ext_getElem hl
  intro i h1 h2
  have := key _ h i h1
  rwa [getD_lt h1, getD_lt h2] at this

/-- A code has at least a distance to all of some codes. -/
def apart (rs : List (List Int)) (c : List Int) (d : Int) : Prop := ∀ r ∈ rs, d ≤ (dif r c : Nat)
instance (rs : List (List Int)) (c : List Int) (d : Int) : Decidable (apart rs c d) := by unfold apart; infer_instance
def famTo (s v : Nat) (d : Int) : Nat → List (List Int)
  | 0 => []
  | n + 1 => if apart (famTo s v d n) (dig s v n) d then famTo s v d n ++ [dig s v n] else famTo s v d n
@[irreducible] def fams (s v : Nat) (d : Int) : List (List Int) := famTo s v d (v ^ s)
theorem fams_eq (s v : Nat) (d : Int) : fams s v d = famTo s v d (v ^ s) := by unfold fams; rfl
theorem famTo_yes {s v : Nat} {d : Int} {n : Nat} (h : apart (famTo s v d n) (dig s v n) d) : famTo s v d (n + 1) = famTo s v d n ++ [dig s v n] := by simp [famTo, h]
theorem famTo_no {s v : Nat} {d : Int} {n : Nat} (h : ¬ apart (famTo s v d n) (dig s v n) d) : famTo s v d (n + 1) = famTo s v d n := by simp [famTo, h]
theorem famTo_le (s v : Nat) (d : Int) : ∀ n, (famTo s v d n).length ≤ n
  | 0 => Nat.le_refl _
  | n + 1 => by
    have := famTo_le s v d n
    simp only [famTo]; split
    · simp; omega
    · omega
theorem famTo_mem {s v : Nat} {d : Int} : ∀ n r, r ∈ famTo s v d n → ∃ m, m < n ∧ r = dig s v m
  | 0, r, h => by simp [famTo] at h
  | n + 1, r, h => by
    simp only [famTo] at h
    split at h
    · rw [List.mem_append, List.mem_singleton] at h
      rcases h with h | rfl
      · obtain ⟨m, h1, h2⟩ := famTo_mem n r h; exact ⟨m, by omega, h2⟩
      · exact ⟨n, by omega, rfl⟩
    · obtain ⟨m, h1, h2⟩ := famTo_mem n r h; exact ⟨m, by omega, h2⟩
theorem famTo_len {s v : Nat} {d : Int} {n : Nat} {r : List Int} (h : r ∈ famTo s v d n) : r.length = s := by
  obtain ⟨m, _, rfl⟩ := famTo_mem n r h; exact dig_len _ _ _
theorem famTo_pre (s v : Nat) (d : Int) (n : Nat) : ∀ k, famTo s v d n = (famTo s v d (n + k)).take (famTo s v d n).length
  | 0 => by simp
  | k + 1 => by
    have ih := famTo_pre s v d n k
    have hl : (famTo s v d n).length ≤ (famTo s v d (n + k)).length := by
      have := congrArg List.length ih; simp only [List.length_take] at this; omega
    rw [← Nat.add_assoc]
    simp only [famTo]
    split
    · rw [List.take_append_of_le_length hl]; exact ih
    · exact ih
/-- At the distance 1 all codes are families. -/
theorem apart_one {s v : Nat} {n : Nat} (hv : 0 < v) (hn : n < v ^ s) : apart (famTo s v 1 n) (dig s v n) 1 := by
  intro r hr
  obtain ⟨m, hm, rfl⟩ := famTo_mem n r hr
  have : dif (dig s v m) (dig s v n) ≠ 0 := fun h => by
    have := dig_inj hv (by omega) hn (dif_zero (by rw [dig_len, dig_len]) h)
    omega
  omega
theorem fams_len {s v : Nat} {d : Int} {r : List Int} (h : r ∈ fams s v d) : r.length = s := by rw [fams_eq] at h; exact famTo_len h
theorem fams_pos {s v : Nat} {d : Int} (hv : 0 < v) : 0 < (fams s v d).length := by
  rw [fams_eq]
  have h1 : 1 ≤ v ^ s := Nat.pow_pos hv
  have h2 := famTo_pre s v d 1 (v ^ s - 1)
  rw [show 1 + (v ^ s - 1) = v ^ s from by omega] at h2
  have h3 : famTo s v d 1 = [dig s v 0] := by simp [famTo, apart]
  rw [h3] at h2
  have h4 := congrArg List.length h2
  simp only [List.length_take, List.length_cons, List.length_nil] at h4
  omega
theorem pow_small {s v : Nat} (hs : sdsys (s : Int) (v : Int)) : v ^ s ≤ 15625 := by
  have h1 := hs.1; have h2 := hs.2
  have := pw_small (b := (v : Int)) (e := s) h2.1 h2.2 (by omega)
  rw [pw_nat] at this; omega
theorem pw_small10 {b : Int} {e : Nat} (h : 2 ≤ b) (h5 : b ≤ 5) (he : e ≤ 5) : pw b e ≤ 3125 := by
  have h6 : ∀ e : _root_.Fin 6, pw 5 e.val ≤ 3125 := by decide
  exact Int.le_trans (pw_le h h5 e) (h6 ⟨e, by omega⟩)
theorem pow_small10 {s v : Nat} (hs : sdsys (s : Int) (v : Int)) : v ^ s ≤ 10000 := by
  have h1 := hs.1; have h2 := hs.2
  have := pw_small10 (b := (v : Int)) (e := s) h2.1 h2.2 (by omega)
  rw [pw_nat] at this; omega
theorem fams_small {s v : Nat} {d : Int} (hs : sdsys (s : Int) (v : Int)) : (fams s v d).length ≤ 15625 := by
  rw [fams_eq]; exact Nat.le_trans (famTo_le s v d _) (pow_small hs)

/-- The nearest of the first k. -/
def nearTo (rs : List (List Int)) (c : List Int) : Nat → List Int
  | 0 => rs.getD 0 []
  | k + 1 => if dif (rs.getD (k + 1) []) c < dif (nearTo rs c k) c then rs.getD (k + 1) [] else nearTo rs c k
def near (rs : List (List Int)) (c : List Int) : List Int := nearTo rs c (rs.length - 1)
theorem nearTo_mem {rs : List (List Int)} {c : List Int} : ∀ k, k < rs.length → nearTo rs c k ∈ rs
  | 0, h => by simp only [nearTo, getD_lt h]; exact List.getElem_mem h
  | k + 1, h => by
    simp only [nearTo]; split
    · rw [getD_lt h]; exact List.getElem_mem h
    · exact nearTo_mem k (by omega)

/-- The answers. -/
def cfV (s v d : Int) : Int := if dis s v d then ((fams s.toNat v.toNat d).length : Int) else 0
def fmOk (s v d m : Int) : Prop := dis s v d ∧ 0 ≤ m ∧ m ≤ 60
instance (s v d m : Int) : Decidable (fmOk s v d m) := by unfold fmOk; infer_instance
def fmV (s v d m : Int) : List (List Int) := if fmOk s v d m then (fams s.toNat v.toNat d).take m.toNat else []
def fmC (s v d m : Int) : Int := if fmOk s v d m then 0 else 2
def nfV (s v d : Int) (c : List Int) : List Int := if dis s v d ∧ code s v c then near (fams s.toNat v.toNat d) c else []
/-- All codes are apart from those before. -/
def apartTo (rs : List (List Int)) (d : Int) (k : Nat) : Prop := ∀ i, i < k → apart (rs.take i) (rs.getD i []) d
instance (rs : List (List Int)) (d : Int) (k : Nat) : Decidable (apartTo rs d k) := by unfold apartTo; infer_instance
def aaV (s v d : Int) (rs : List (List Int)) : Bool := decide (dis s v d ∧ (∀ r ∈ rs, code s v r) ∧ rs.length ≤ 60 ∧ apartTo rs d rs.length)
def aaC (s v d : Int) (rs : List (List Int)) : Int := if dis s v d then (if ∀ r ∈ rs, code s v r then (if rs.length ≤ 60 then 0 else 3) else 1) else 2
theorem tot_le {α : Type} {n : Nat} : ∀ {rs : List (List α)}, (∀ r ∈ rs, r.length ≤ n) → tot rs ≤ rs.length * n
  | [], _ => by simp [tot]
  | r :: rs, h => by
    have h1 := h r (by simp)
    have h2 := tot_le (rs := rs) (fun s hs => h s (by simp [hs]))
    simp only [tot, List.length_cons, Nat.succ_mul]; omega
theorem fmV_tot (s v d m : Int) : tot (fmV s v d m) ≤ 300 := by
  unfold fmV
  split
  · rename_i h
    have hs := h.1.1.1
    have h1 := tot_le (n := s.toNat) (rs := (fams s.toNat v.toNat d).take m.toNat) (fun r hr => by rw [fams_len (List.mem_of_mem_take hr)]; omega)
    have h2 : ((fams s.toNat v.toNat d).take m.toNat).length ≤ 60 := by simp only [List.length_take]; have := h.2; omega
    have h3 : s.toNat ≤ 5 := by omega
    exact Nat.le_trans h1 (Nat.le_trans (Nat.mul_le_mul h2 h3) (by omega))
  · simp [tot]
theorem near_mem {rs : List (List Int)} {c : List Int} (h : 0 < rs.length) : near rs c ∈ rs := nearTo_mem _ (by omega)
theorem nfV_len (s v d : Int) (c : List Int) : (nfV s v d c).length ≤ 5 := by
  unfold nfV
  split
  · rename_i h
    have hs := h.1.1.1
    have hv := h.1.1.2
    rw [fams_len (near_mem (fams_pos (by omega)))]; omega
  · simp
theorem aaC_no {s v d : Int} {rs : List (List Int)} (h : ¬ (dis s v d ∧ ∀ r ∈ rs, code s v r)) : aaC s v d rs = scC s v d rs := by
  unfold aaC scC
  by_cases hd : dis s v d
  · have hn : ¬ ∀ r ∈ rs, code s v r := fun h2 => h ⟨hd, h2⟩
    rw [if_pos hd, if_pos hd, if_neg hn, if_neg hn]
  · rw [if_neg hd, if_neg hd]
theorem apartTo_succ {rs : List (List Int)} {d : Int} {k : Nat} (h : apartTo rs d k) (h2 : apart (rs.take k) (rs.getD k []) d) : apartTo rs d (k + 1) := by
  intro i hi
  by_cases e : i = k
  · subst e; exact h2
  · exact h i (by omega)
end B
end Go.Proofs.Ytfpignajpihgnaa
