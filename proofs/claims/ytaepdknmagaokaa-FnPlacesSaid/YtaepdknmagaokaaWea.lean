/-
  Makers, locks, keys and wear, in plain terms.
-/
import Derived.Test.YtaepdknmagaokaaLists
import Derived.Test.YtaepdknmagaokaaNest
namespace Go.Proofs.Ytaepdknmagaokaa
namespace B
open Go.RowKit

/-- A maker's numbers: chambers, depths, step, same, least. -/
structure Mk where
  ch : Int
  dp : Int
  st : Int
  sm : Int
  le : Int
abbrev mkA (m : Mk) : Value := .agg #[.int .i64 m.ch, .int .i64 m.dp, .int .i64 m.st, .int .i64 m.sm, .int .i64 m.le]
def mkOk (m : Mk) : Prop := (2 ≤ m.ch ∧ m.ch ≤ 6) ∧ (2 ≤ m.dp ∧ m.dp ≤ 8) ∧ (1 ≤ m.st ∧ m.st ≤ m.dp - 1) ∧ (1 ≤ m.sm ∧ m.sm ≤ m.ch) ∧ (1 ≤ m.le ∧ m.le ≤ min m.ch m.dp)
instance (m : Mk) : Decidable (mkOk m) := by unfold mkOk; infer_instance
/-- The sets of a lock of a valid maker. -/
def lckS (m : Mk) (ss : List (List Int)) : Prop := (ss.length : Int) = m.ch ∧ ∀ r ∈ ss, 0 < r.length ∧ rises r m.dp
instance (m : Mk) (ss : List (List Int)) : Decidable (lckS m ss) := by unfold lckS; infer_instance
def lck (m : Mk) (ss : List (List Int)) : Prop := mkOk m ∧ lckS m ss
instance (m : Mk) (ss : List (List Int)) : Decidable (lck m ss) := by unfold lck; infer_instance

/-- How many numbers are equal at the end of the first i + 1. -/
def rn (cs : List Int) : Nat → Nat
  | 0 => 1
  | i + 1 => if cs.getD (i + 1) 0 = cs.getD i 0 then rn cs i + 1 else 1
/-- How many different numbers the first k are. -/
def kn (cs : List Int) : Nat → Nat
  | 0 => 0
  | k + 1 => if cs.getD k 0 ∈ cs.take k then kn cs k else kn cs k + 1
def cuts (m : Mk) (cs : List Int) : Prop := ∀ x ∈ cs, 0 ≤ x ∧ x ≤ m.dp - 1
def steps (m : Mk) (cs : List Int) (k : Nat) : Prop := ∀ i, i < k → 1 ≤ i → max (cs.getD i 0 - cs.getD (i - 1) 0) (-(cs.getD i 0 - cs.getD (i - 1) 0)) ≤ m.st
def runs (m : Mk) (cs : List Int) (k : Nat) : Prop := ∀ i, i < k → (rn cs i : Int) ≤ m.sm
instance (m : Mk) (cs : List Int) : Decidable (cuts m cs) := by unfold cuts; infer_instance
instance (m : Mk) (cs : List Int) (k : Nat) : Decidable (steps m cs k) := by unfold steps; infer_instance
instance (m : Mk) (cs : List Int) (k : Nat) : Decidable (runs m cs k) := by unfold runs; infer_instance
/-- The cuts of a key. -/
def key (m : Mk) (cs : List Int) : Prop := (cs.length : Int) = m.ch ∧ cuts m cs ∧ steps m cs cs.length ∧ runs m cs cs.length ∧ m.le ≤ (kn cs cs.length : Int)
instance (m : Mk) (cs : List Int) : Decidable (key m cs) := by unfold key; infer_instance

theorem rn_pos (cs : List Int) : ∀ i, 1 ≤ rn cs i
  | 0 => Nat.le_refl _
  | i + 1 => by unfold rn; split <;> omega
theorem rn_le (cs : List Int) : ∀ i, rn cs i ≤ i + 1
  | 0 => Nat.le_refl _
  | i + 1 => by have := rn_le cs i; unfold rn; split <;> omega
theorem kn_le (cs : List Int) : ∀ k, kn cs k ≤ k
  | 0 => Nat.le_refl _
  | k + 1 => by have := kn_le cs k; unfold kn; split <;> omega
/-- The run at i, found from its end. -/
theorem rn_run {cs : List Int} : ∀ (i run : Nat), 1 ≤ run → run ≤ i + 1 → (∀ j, j < run → cs.getD (i - j) 0 = cs.getD i 0) → (run = i + 1 ∨ cs.getD (i - run) 0 ≠ cs.getD i 0) → rn cs i = run
  | 0, run, h1, h2, _, _ => by unfold rn; omega
  | i + 1, run, h1, h2, h3, h4 => by
    unfold rn
    by_cases e : run = 1
    · subst e
      rcases h4 with h4 | h4
      · omega
      · rw [if_neg (fun hh => h4 (by rw [show i + 1 - 1 = i from by omega]; exact hh.symm))]
    · have h5 : cs.getD (i + 1) 0 = cs.getD i 0 := by have := h3 1 (by omega); rw [show i + 1 - 1 = i from by omega] at this; exact this.symm
      rw [if_pos h5]
      have := rn_run i (run - 1) (by omega) (by omega) (fun j hj => by have := h3 (j + 1) (by omega); rw [show i + 1 - (j + 1) = i - j from by omega] at this; rw [this, h5])
        (by
          rcases h4 with h4 | h4
          · left; omega
          · right; intro hh; apply h4; rw [show i + 1 - run = i - (run - 1) from by omega, hh, h5])
      omega

/-- Is a place free for a set? -/
def fre (set : List Int) (p t : Int) : Prop := ∃ x ∈ set, max (p - 10 * x) (-(p - 10 * x)) ≤ t
instance (set : List Int) (p t : Int) : Decidable (fre set p t) := by unfold fre; infer_instance
/-- At how many of the first n places of a cut is a set free? -/
def cnt (set : List Int) (c : Int) (n : Nat) (t : Int) : Nat := (idxs (fun w => decide (fre set (10 * c + (w : Int)) t)) n).length
theorem cnt_zero (set : List Int) (c t : Int) : cnt set c 0 t = 0 := rfl
theorem cnt_yes {set : List Int} {c t : Int} {n : Nat} (h : fre set (10 * c + (n : Int)) t) : cnt set c (n + 1) t = cnt set c n t + 1 := by
  unfold cnt; rw [idxs_yes (by simpa using h)]; simp
theorem cnt_no {set : List Int} {c t : Int} {n : Nat} (h : ¬ fre set (10 * c + (n : Int)) t) : cnt set c (n + 1) t = cnt set c n t := by
  unfold cnt; rw [idxs_no (by simpa using h)]
theorem cnt_le (set : List Int) (c t : Int) (n : Nat) : cnt set c n t ≤ n := idxs_le _ _
theorem cnt_step (set : List Int) (c t : Int) (n : Nat) : cnt set c n t ≤ cnt set c (n + 1) t ∧ cnt set c (n + 1) t ≤ cnt set c n t + 1 := by
  by_cases h : fre set (10 * c + (n : Int)) t
  · rw [cnt_yes h]; omega
  · rw [cnt_no h]; omega
def mayTo (ss : List (List Int)) (cs : List Int) (n : Nat) (t : Int) (k : Nat) : Prop := ∀ i, i < k → 0 < cnt (ss.getD i []) (cs.getD i 0) n t
def surTo (ss : List (List Int)) (cs : List Int) (n : Nat) (t : Int) (k : Nat) : Prop := ∀ i, i < k → cnt (ss.getD i []) (cs.getD i 0) n t = n
instance (ss : List (List Int)) (cs : List Int) (n : Nat) (t : Int) (k : Nat) : Decidable (mayTo ss cs n t k) := by unfold mayTo; infer_instance
instance (ss : List (List Int)) (cs : List Int) (n : Nat) (t : Int) (k : Nat) : Decidable (surTo ss cs n t k) := by unfold surTo; infer_instance
theorem sur_down {ss : List (List Int)} {cs : List Int} {n k : Nat} {t : Int} (h : surTo ss cs (n + 1) t k) : surTo ss cs n t k := fun i hi => by
  have h1 := h i hi
  have h2 := cnt_step (ss.getD i []) (cs.getD i 0) t n
  have h3 := cnt_le (ss.getD i []) (cs.getD i 0) t n
  omega

def nums (w t : Int) : Prop := (0 ≤ w ∧ w ≤ 19) ∧ (0 ≤ t ∧ t ≤ 4)
instance (w t : Int) : Decidable (nums w t) := by unfold nums; infer_instance
/-- The codes. -/
def moC (m : Mk) (ss : List (List Int)) (cs : List Int) (w t : Int) : Int := if ¬ lck m ss then 1 else if nums w t ∧ key m cs then 0 else 2
def loC (m : Mk) (ss : List (List Int)) (w t : Int) : Int := if ¬ lck m ss then 1 else if nums w t then 0 else 2
def frC (m : Mk) (ss : List (List Int)) (c t : Int) : Int := if ¬ lck m ss then 1 else if nums 0 t ∧ (0 ≤ c ∧ c ≤ m.ch - 1) then 0 else 2
def nbC (m : Mk) (cs : List Int) (w t : Int) : Int := if ¬ mkOk m then 1 else if nums w t ∧ key m cs then 0 else 2
theorem moC_zero {m : Mk} {ss : List (List Int)} {cs : List Int} {w t : Int} : moC m ss cs w t = 0 ↔ lck m ss ∧ nums w t ∧ key m cs := by
  unfold moC; split
  · rename_i h; exact ⟨fun e => by omega, fun e => absurd e.1 h⟩
  · rename_i h; split
    · rename_i h2; exact ⟨fun _ => ⟨Decidable.not_not.1 h, h2⟩, fun _ => rfl⟩
    · rename_i h2; exact ⟨fun e => by omega, fun e => absurd e.2 h2⟩
theorem loC_zero {m : Mk} {ss : List (List Int)} {w t : Int} : loC m ss w t = 0 ↔ lck m ss ∧ nums w t := by
  unfold loC; split
  · rename_i h; exact ⟨fun e => by omega, fun e => absurd e.1 h⟩
  · rename_i h; split
    · rename_i h2; exact ⟨fun _ => ⟨Decidable.not_not.1 h, h2⟩, fun _ => rfl⟩
    · rename_i h2; exact ⟨fun e => by omega, fun e => absurd e.2 h2⟩
theorem frC_zero {m : Mk} {ss : List (List Int)} {c t : Int} : frC m ss c t = 0 ↔ lck m ss ∧ nums 0 t ∧ (0 ≤ c ∧ c ≤ m.ch - 1) := by
  unfold frC; split
  · rename_i h; exact ⟨fun e => by omega, fun e => absurd e.1 h⟩
  · rename_i h; split
    · rename_i h2; exact ⟨fun _ => ⟨Decidable.not_not.1 h, h2⟩, fun _ => rfl⟩
    · rename_i h2; exact ⟨fun e => by omega, fun e => absurd e.2 h2⟩
theorem nbC_zero {m : Mk} {cs : List Int} {w t : Int} : nbC m cs w t = 0 ↔ mkOk m ∧ nums w t ∧ key m cs := by
  unfold nbC; split
  · rename_i h; exact ⟨fun e => by omega, fun e => absurd e.1 h⟩
  · rename_i h; split
    · rename_i h2; exact ⟨fun _ => ⟨Decidable.not_not.1 h, h2⟩, fun _ => rfl⟩
    · rename_i h2; exact ⟨fun e => by omega, fun e => absurd e.2 h2⟩

/-- The values. -/
def moV (m : Mk) (ss : List (List Int)) (cs : List Int) (w t : Int) : Prop := moC m ss cs w t = 0 ∧ mayTo ss cs (w + 1).toNat t cs.length
def soV (m : Mk) (ss : List (List Int)) (cs : List Int) (w t : Int) : Prop := moC m ss cs w t = 0 ∧ surTo ss cs (w + 1).toNat t cs.length
instance (m : Mk) (ss : List (List Int)) (cs : List Int) (w t : Int) : Decidable (moV m ss cs w t) := by unfold moV; infer_instance
instance (m : Mk) (ss : List (List Int)) (cs : List Int) (w t : Int) : Decidable (soV m ss cs w t) := by unfold soV; infer_instance

/-- How far a property goes on from 0. -/
def pre (p : Nat → Bool) : Nat → Nat
  | 0 => 0
  | n + 1 => if pre p n = n ∧ p n = true then n + 1 else pre p n
theorem pre_le (p : Nat → Bool) : ∀ n, pre p n ≤ n
  | 0 => Nat.le_refl _
  | n + 1 => by have := pre_le p n; unfold pre; split <;> omega
theorem pre_all {p : Nat → Bool} : ∀ {n : Nat}, (∀ i, i < n → p i = true) → pre p n = n
  | 0, _ => rfl
  | n + 1, h => by unfold pre; rw [if_pos ⟨pre_all (fun i hi => h i (by omega)), h n (by omega)⟩]
theorem pre_stop {p : Nat → Bool} {k : Nat} (h1 : ∀ i, i < k → p i = true) (h2 : p k = false) : ∀ n, k ≤ n → pre p n = k
  | n, h => by
    by_cases e : n = k
    · subst e; exact pre_all h1
    · cases n with
      | zero => omega
      | succ n =>
        unfold pre
        have ih := pre_stop h1 h2 n (by omega)
        by_cases e2 : n = k
        · subst e2; rw [if_neg (fun hh => by rw [h2] at hh; cases hh.2), ih]
        · rw [if_neg (fun hh => by have := hh.1; omega), ih]
/-- The greatest wear with which a key surely opens, and one more. -/
def wlN (ss : List (List Int)) (cs : List Int) (t : Int) (n : Nat) : Nat := pre (fun w => decide (surTo ss cs (w + 1) t cs.length)) n
def wlC (m : Mk) (ss : List (List Int)) (cs : List Int) (t : Int) : Int := if moC m ss cs 0 t = 0 then (if wlN ss cs t 20 = 0 then 4 else 0) else moC m ss cs 0 t
def wlV (m : Mk) (ss : List (List Int)) (cs : List Int) (t : Int) : Int := if wlC m ss cs t = 0 then (wlN ss cs t 20 : Int) - 1 else 0
theorem sur_le {ss : List (List Int)} {cs : List Int} {t : Int} {k : Nat} : ∀ (d n : Nat), surTo ss cs (n + d) t k → surTo ss cs n t k
  | 0, _, h => h
  | d + 1, n, h => sur_le d n (sur_down h)
theorem wlN_yes {ss : List (List Int)} {cs : List Int} {t : Int} {n : Nat} (h : surTo ss cs (n + 1) t cs.length) : wlN ss cs t (n + 1) = n + 1 :=
  pre_all fun i hi => decide_eq_true (sur_le (n - i) (i + 1) (by rw [show i + 1 + (n - i) = n + 1 from by omega]; exact h))
theorem wlN_no {ss : List (List Int)} {cs : List Int} {t : Int} {n : Nat} (h : ¬ surTo ss cs (n + 1) t cs.length) : wlN ss cs t (n + 1) = wlN ss cs t n := by
  unfold wlN; conv => lhs; unfold pre
  rw [if_neg (fun hh => h (of_decide_eq_true hh.2))]

/-- The free places of a chamber. -/
def frL (set : List Int) (t : Int) (n : Nat) : List Int := idxs (fun p => decide (fre set (p : Int) t)) n
def frV (m : Mk) (ss : List (List Int)) (c t : Int) : List Int := if frC m ss c t = 0 then frL (ss.getD c.toNat []) t 81 else []
theorem fre_far {set : List Int} {n t : Int} {p : Nat} (hr : rises set n) (ht : t ≤ 4) (hp : 10 * n ≤ (p : Int)) : ¬ fre set (p : Int) t := by
  rintro ⟨x, hx, h⟩
  obtain ⟨i, hi, rfl⟩ := List.mem_iff_getElem.1 hx
  have := hr i hi
  rw [getD_lt hi] at this
  omega
theorem frL_far {set : List Int} {n t : Int} (hr : rises set n) (h0 : 0 ≤ n) (h8 : n ≤ 8) (ht : t ≤ 4) : frL set t 81 = frL set t (10 * n).toNat := by
  have : ∀ d, frL set t ((10 * n).toNat + d) = frL set t (10 * n).toNat := fun d => by
    induction d with
    | zero => rfl
    | succ d ih =>
      rw [show (10 * n).toNat + (d + 1) = (10 * n).toNat + d + 1 from by omega]
      unfold frL at ih ⊢
      rw [idxs_no (decide_eq_false (fre_far hr ht (by omega))), ih]
  rw [← this (81 - (10 * n).toNat), show (10 * n).toNat + (81 - (10 * n).toNat) = 81 from by omega]
theorem frV_len (m : Mk) (ss : List (List Int)) (c t : Int) : (frV m ss c t).length ≤ 81 := by
  unfold frV; split
  · exact idxs_le _ _
  · simp

/-- The lock that a worn key's cuts open. -/
def wnS (m : Mk) (set : List Int) (n : Nat) (t : Int) (k : Nat) : List Int := idxs (fun d => decide (0 < cnt set (d : Int) n t)) k
def wnL (m : Mk) (ss : List (List Int)) (n : Nat) (t : Int) : List (List Int) := ss.map fun set => wnS m set n t m.dp.toNat
def wnV (m : Mk) (ss : List (List Int)) (w t : Int) : List (List Int) := if loC m ss w t = 0 then wnL m ss (w + 1).toNat t else []
end B
end Go.Proofs.Ytaepdknmagaokaa
