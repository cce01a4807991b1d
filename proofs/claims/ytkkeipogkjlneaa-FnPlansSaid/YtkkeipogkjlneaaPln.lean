/-
  Plans: the plain side. A building (ps, ds) and the rights rs of its keys.
-/
import Derived.Test.YtkkeipogkjlneaaBld
import Derived.Test.YtkkeipogkjlneaaPart
namespace Go.Proofs.Ytkkeipogkjlneaa
namespace B
open Go.RowKit

def rts (n : Int) (ns : List Int) : Prop := 0 < ns.length ∧ rises ns n
instance (n : Int) (ns : List Int) : Decidable (rts n ns) := by unfold rts; infer_instance
def pln (ps : List Int) (ds : List Bool) (rs : List (List Int)) : Prop := bld ps ds ∧ (1 ≤ rs.length ∧ rs.length ≤ 10) ∧ ∀ r ∈ rs, rts ps.length r
instance (ps : List Int) (ds : List Bool) (rs : List (List Int)) : Decidable (pln ps ds rs) := by unfold pln; infer_instance
theorem rises_mem {ns : List Int} {n : Int} (h : rises ns n) : ∀ x ∈ ns, 0 ≤ x ∧ x < n := by
  intro x hx
  obtain ⟨i, hi, rfl⟩ := List.getElem_of_mem hx
  have := h i hi
  rw [getD_lt hi] at this
  exact ⟨this.1, this.2.1⟩
theorem rises_len {ns : List Int} {n : Nat} (h : rises ns n) : ns.length ≤ n := by
  have key : ∀ k, k < ns.length → (k : Int) ≤ ns.getD k 0 := by
    intro k
    induction k with
    | zero => intro hk; exact (h 0 hk).1
    | succ k ih =>
      intro hk
      have h1 := (h (k + 1) hk).2.2 (by omega)
      have h2 := ih (by omega)
      simp only [Nat.add_sub_cancel] at h1
      omega
  rcases Nat.lt_or_ge n ns.length with h2 | h2
  · have h3 := key (ns.length - 1) (by omega)
    have h4 := (h (ns.length - 1) (by omega)).2.1
    omega
  · exact h2

theorem pln_any {ps : List Int} {ds : List Bool} {rs : List (List Int)} (h1 : bld ps ds) (h2 : 1 ≤ rs.length ∧ rs.length ≤ 10) : (!(List.range rs.length).any fun k => !decide (rts ps.length (rs.getD k []))) = decide (pln ps ds rs) := by
  rw [Bool.eq_iff_iff, decide_eq_true_eq, Bool.not_eq_true', List.any_eq_false]
  constructor
  · intro h
    refine ⟨h1, h2, fun r hr => ?_⟩
    obtain ⟨i, hi, rfl⟩ := List.getElem_of_mem hr
    have := h i (List.mem_range.2 hi)
    rw [getD_lt hi] at this
    simpa using this
  · intro h k hk
    have hk' := List.mem_range.1 hk
    rw [getD_lt hk']
    simpa using h.2.2 _ (List.getElem_mem hk')
/-- Rights let a key enter a door. -/
def may (ps : List Int) (ns : List Int) (d : Int) : Prop := ∃ x ∈ ns, under ps d x
instance (ps : List Int) (ns : List Int) (d : Int) : Decidable (may ps ns d) := by unfold may; infer_instance
def mayTo (ps : List Int) (ns : List Int) (d : Int) (k : Nat) : Prop := ∃ x ∈ ns.take k, under ps d x
instance (ps : List Int) (ns : List Int) (d : Int) (k : Nat) : Decidable (mayTo ps ns d k) := by unfold mayTo; infer_instance

def isKey (rs : List (List Int)) (k : Int) : Prop := 0 ≤ k ∧ k ≤ (rs.length : Int) - 1
instance (rs : List (List Int)) (k : Int) : Decidable (isKey rs k) := by unfold isKey; infer_instance
def isDoor (ps : List Int) (ds : List Bool) (d : Int) : Prop := (0 ≤ d ∧ d ≤ (ps.length : Int) - 1) ∧ isD ds d.toNat = true
instance (ps : List Int) (ds : List Bool) (d : Int) : Decidable (isDoor ps ds d) := by unfold isDoor; infer_instance

/-- The code of a plan, a key and a door. -/
def pcC (ps : List Int) (ds : List Bool) (rs : List (List Int)) (k d : Int) : Int := if pln ps ds rs then (if isKey rs k ∧ isDoor ps ds d then 0 else 2) else 1
theorem pcC_zero {ps : List Int} {ds : List Bool} {rs : List (List Int)} {k d : Int} : pcC ps ds rs k d = 0 ↔ pln ps ds rs ∧ isKey rs k ∧ isDoor ps ds d := by
  unfold pcC
  by_cases h : pln ps ds rs
  · rw [if_pos h]
    by_cases h2 : isKey rs k ∧ isDoor ps ds d
    · rw [if_pos h2]; exact ⟨fun _ => ⟨h, h2⟩, fun _ => rfl⟩
    · rw [if_neg h2]; exact ⟨fun e => by simp at e, fun e => absurd e.2 h2⟩
  · rw [if_neg h]; exact ⟨fun e => by simp at e, fun e => absurd e.1 h⟩
def pkC (ps : List Int) (ds : List Bool) (rs : List (List Int)) (k : Int) : Int := if pln ps ds rs then (if isKey rs k then 0 else 2) else 1
theorem pkC_zero {ps : List Int} {ds : List Bool} {rs : List (List Int)} {k : Int} : pkC ps ds rs k = 0 ↔ pln ps ds rs ∧ isKey rs k := by
  unfold pkC
  by_cases h : pln ps ds rs
  · rw [if_pos h]
    by_cases h2 : isKey rs k
    · rw [if_pos h2]; exact ⟨fun _ => ⟨h, h2⟩, fun _ => rfl⟩
    · rw [if_neg h2]; exact ⟨fun e => by simp at e, fun e => absurd e.2 h2⟩
  · rw [if_neg h]; exact ⟨fun e => by simp at e, fun e => absurd e.1 h⟩
/-- The first door of a building; 0 if it has none. -/
def sdV (ds : List Bool) : Int := match ds.findIdx? (· = true) with | some i => i | none => 0
theorem pcC_key {ps : List Int} {ds : List Bool} {rs : List (List Int)} {k i : Int} (h : idxF (fun x => true == x) ds i) : pcC ps ds rs k (max 0 i) = pkC ps ds rs k := by
  unfold pcC pkC
  by_cases hp : pln ps ds rs
  · rw [if_pos hp, if_pos hp]
    have hd : isDoor ps ds (max 0 i) := by
      have hb := hp.1
      have hl := hb.1.2.1
      rcases h with ⟨_, hno⟩ | ⟨j, rfl, hj, hjt, _⟩
      · obtain ⟨q, hq, h1, h2⟩ := hb.2.2
        have hq' : q < ds.length := by omega
        have := hno _ (List.getElem_mem hq')
        unfold isD at h2; rw [getD_lt hq'] at h2
        rw [h2] at this; simp at this
      · have e : max (0 : Int) (j : Int) = (j : Int) := by omega
        rw [e]
        refine ⟨by omega, ?_⟩
        rw [show ((j : Int)).toNat = j from by omega]
        unfold isD; rw [getD_lt hj]
        simpa using hjt
    by_cases hk : isKey rs k
    · rw [if_pos hk, if_pos ⟨hk, hd⟩]
    · rw [if_neg hk, if_neg (fun h => hk h.1)]
  · rw [if_neg hp, if_neg hp]

/-- What the functions give. -/
def row (rs : List (List Int)) (k : Int) : List Int := rs.getD k.toNat []
def meV (ps : List Int) (ds : List Bool) (rs : List (List Int)) (k d : Int) : Prop := pcC ps ds rs k d = 0 ∧ may ps (row rs k) d
instance (ps : List Int) (ds : List Bool) (rs : List (List Int)) (k d : Int) : Decidable (meV ps ds rs k d) := by unfold meV; infer_instance
/-- All doors. -/
def drs (ps : List Int) (ds : List Bool) : List Int := doorsU ps ds 0
def dfL (ps : List Int) (ds : List Bool) (ns : List Int) : List Int := (drs ps ds).filter (fun d => decide (may ps ns d))
def dfV (ps : List Int) (ds : List Bool) (rs : List (List Int)) (k : Int) : List Int := if pkC ps ds rs k = 0 then dfL ps ds (row rs k) else []
def kfP (ps : List Int) (rs : List (List Int)) (d : Int) (i : Nat) : Bool := decide (may ps (rs.getD i []) d)
def kfL (ps : List Int) (rs : List (List Int)) (d : Int) : List Int := idxs (kfP ps rs d) rs.length
def kfV (ps : List Int) (ds : List Bool) (rs : List (List Int)) (d : Int) : List Int := if pcC ps ds rs 0 d = 0 then kfL ps rs d else []
theorem isk0 {rs : List (List Int)} (h : 1 ≤ rs.length) : isKey rs 0 := ⟨Int.le_refl _, by omega⟩
/-- The code of a plan and a door. -/
theorem pcC_door {ps : List Int} {ds : List Bool} {rs : List (List Int)} {d : Int} : pcC ps ds rs 0 d = if pln ps ds rs then (if isDoor ps ds d then 0 else 2) else 1 := by
  unfold pcC
  by_cases hp : pln ps ds rs
  · rw [if_pos hp, if_pos hp]
    have hk := isk0 hp.2.1.1
    by_cases hd : isDoor ps ds d
    · rw [if_pos hd, if_pos ⟨hk, hd⟩]
    · rw [if_neg hd, if_neg (fun h => hd h.2)]
  · rw [if_neg hp, if_neg hp]
/-- Access. -/
def acRow (ps : List Int) (ns : List Int) (dl : List Int) : List Int := dl.map (fun d => if may ps ns d then 1 else 0)
def acL (ps : List Int) (ds : List Bool) (rs : List (List Int)) : List (List Int) := rs.map (fun r => acRow ps r (drs ps ds))
def acV (ps : List Int) (ds : List Bool) (rs : List (List Int)) : List (List Int) := if pln ps ds rs then acL ps ds rs else []
def plC (ps : List Int) (ds : List Bool) (rs : List (List Int)) : Int := if pln ps ds rs then 0 else 1
/-- Unused doors. -/
def used (ps : List Int) (rs : List (List Int)) (d : Int) : Prop := ∃ r ∈ rs, may ps r d
instance (ps : List Int) (rs : List (List Int)) (d : Int) : Decidable (used ps rs d) := by unfold used; infer_instance
def udL (ps : List Int) (ds : List Bool) (rs : List (List Int)) : List Int := (drs ps ds).filter (fun d => !decide (used ps rs d))
def udV (ps : List Int) (ds : List Bool) (rs : List (List Int)) : List Int := if pln ps ds rs then udL ps ds rs else []
/-- Shortened rights. -/
def shP (ps : List Int) (ns : List Int) (x : Int) : Prop := ∃ y ∈ ns, y ≠ x ∧ under ps x y
instance (ps : List Int) (ns : List Int) (x : Int) : Decidable (shP ps ns x) := by unfold shP; infer_instance
def shL (ps : List Int) (ns : List Int) : List Int := ns.filter (fun x => !decide (shP ps ns x))
def shV (ps : List Int) (ds : List Bool) (rs : List (List Int)) (k : Int) : List Int := if pkC ps ds rs k = 0 then shL ps (row rs k) else []
/-- Least rights. -/
def whole (ps : List Int) (ds : List Bool) (ns : List Int) (g : Int) : Prop := 0 < (doorsU ps ds g).length ∧ ∀ d ∈ doorsU ps ds g, may ps ns d
instance (ps : List Int) (ds : List Bool) (ns : List Int) (g : Int) : Decidable (whole ps ds ns g) := by unfold whole; infer_instance
def lrP (ps : List Int) (ds : List Bool) (ns : List Int) (i : Nat) : Bool := decide (whole ps ds ns (i : Int) ∧ (par ps i < 0 ∨ ¬ whole ps ds ns (par ps i)))
def lrL (ps : List Int) (ds : List Bool) (ns : List Int) : List Int := idxs (lrP ps ds ns) ps.length
def lrV (ps : List Int) (ds : List Bool) (rs : List (List Int)) (k : Int) : List Int := if pkC ps ds rs k = 0 then lrL ps ds (row rs k) else []
/-- A key more. -/
def akC (ps : List Int) (ds : List Bool) (rs : List (List Int)) (ns : List Int) : Int := if pln ps ds rs then (if rts ps.length ns then (if rs.length = 10 then 3 else 0) else 2) else 1
def akV {α : Type} (c : Int) (x : List α) : List α := if c = 0 then x else []

theorem may_any {ps ns : List Int} {d : Int} : (ns.any fun x => decide (under ps d x)) = decide (may ps ns d) := by
  rw [Bool.eq_iff_iff, decide_eq_true_eq]; simp [may]
theorem mayTo_all {ps ns : List Int} {d : Int} : mayTo ps ns d ns.length ↔ may ps ns d := by unfold mayTo may; rw [List.take_length]
theorem mayTo_succ {ps ns : List Int} {d : Int} {k : Nat} (h : k < ns.length) : mayTo ps ns d (k + 1) ↔ mayTo ps ns d k ∨ under ps d ns[k] := by
  unfold mayTo
  rw [List.take_succ_eq_append_getElem h]
  simp only [List.mem_append, List.mem_singleton]
  constructor
  · rintro ⟨x, h1 | rfl, h2⟩
    · exact .inl ⟨x, h1, h2⟩
    · exact .inr h2
  · rintro (⟨x, h1, h2⟩ | h2)
    · exact ⟨x, .inl h1, h2⟩
    · exact ⟨_, .inr rfl, h2⟩
theorem may_at {ps ns : List Int} {d : Int} {k : Nat} (h : k < ns.length) (h2 : under ps d ns[k]) : may ps ns d := ⟨_, List.getElem_mem h, h2⟩
theorem row_at {rs : List (List Int)} {k : Int} (h : isKey rs k) : ∃ h : k.toNat < rs.length, row rs k = rs[k.toNat] := by
  have h2 : k.toNat < rs.length := by unfold isKey at h; omega
  exact ⟨h2, by unfold row; exact getD_lt h2⟩
theorem row_nat {rs : List (List Int)} {k : Nat} : row rs (k : Int) = rs.getD k [] := by unfold row; simp
theorem kf_used {ps : List Int} {rs : List (List Int)} {d : Int} : decide ((0 : Int) < ((kfL ps rs d).length : Nat)) = decide (used ps rs d) := by
  rw [Bool.eq_iff_iff, decide_eq_true_eq, decide_eq_true_eq]
  constructor
  · intro h
    have h0 : 0 < (kfL ps rs d).length := by omega
    obtain ⟨i, h1, h2, _⟩ := mem_idxs.1 (List.getElem_mem h0)
    unfold kfP at h2
    rw [getD_lt h1] at h2
    exact ⟨_, List.getElem_mem h1, of_decide_eq_true h2⟩
  · rintro ⟨r, hr, hm⟩
    obtain ⟨i, hi, rfl⟩ := List.getElem_of_mem hr
    have : (i : Int) ∈ kfL ps rs d := mem_idxs.2 ⟨i, hi, by unfold kfP; rw [getD_lt hi]; exact decide_eq_true hm, rfl⟩
    have := List.length_pos_of_mem this
    omega
theorem usedTo_succ {ps : List Int} {rs : List (List Int)} {d : Int} {k : Nat} (h : k < rs.length) : (∃ r ∈ rs.take (k + 1), may ps r d) ↔ (∃ r ∈ rs.take k, may ps r d) ∨ may ps rs[k] d := by
  rw [List.take_succ_eq_append_getElem h]
  simp only [List.mem_append, List.mem_singleton]
  constructor
  · rintro ⟨x, h1 | rfl, h2⟩
    · exact .inl ⟨x, h1, h2⟩
    · exact .inr h2
  · rintro (⟨x, h1, h2⟩ | h2)
    · exact ⟨x, .inl h1, h2⟩
    · exact ⟨_, .inr rfl, h2⟩
theorem ex_snoc {α : Type} {p : α → Prop} {xs : List α} {k : Nat} (h : k < xs.length) : (∃ x ∈ xs.take (k + 1), p x) ↔ (∃ x ∈ xs.take k, p x) ∨ p xs[k] := by
  rw [List.take_succ_eq_append_getElem h]
  simp only [List.mem_append, List.mem_singleton]
  constructor
  · rintro ⟨x, h1 | rfl, h2⟩
    · exact .inl ⟨x, h1, h2⟩
    · exact .inr h2
  · rintro (⟨x, h1, h2⟩ | h2)
    · exact ⟨x, .inl h1, h2⟩
    · exact ⟨_, .inr rfl, h2⟩
def shTo (ps ns : List Int) (x : Int) (k : Nat) : Prop := ∃ y ∈ ns.take k, y ≠ x ∧ under ps x y
instance (ps ns : List Int) (x : Int) (k : Nat) : Decidable (shTo ps ns x k) := by unfold shTo; infer_instance
theorem shTo_succ {ps ns : List Int} {x : Int} {k : Nat} (h : k < ns.length) : shTo ps ns x (k + 1) ↔ shTo ps ns x k ∨ (ns[k] ≠ x ∧ under ps x ns[k]) := ex_snoc (p := fun y => y ≠ x ∧ under ps x y) h
theorem shTo_all {ps ns : List Int} {x : Int} : shTo ps ns x ns.length ↔ shP ps ns x := by unfold shTo shP; rw [List.take_length]
theorem shTo_zero {ps ns : List Int} {x : Int} : ¬ shTo ps ns x 0 := by unfold shTo; simp
def usTo (ps : List Int) (rs : List (List Int)) (d : Int) (k : Nat) : Prop := ∃ r ∈ rs.take k, may ps r d
instance (ps : List Int) (rs : List (List Int)) (d : Int) (k : Nat) : Decidable (usTo ps rs d k) := by unfold usTo; infer_instance
theorem usTo_succ {ps : List Int} {rs : List (List Int)} {d : Int} {k : Nat} (h : k < rs.length) : usTo ps rs d (k + 1) ↔ usTo ps rs d k ∨ may ps rs[k] d := ex_snoc (p := fun r => may ps r d) h
theorem usTo_all {ps : List Int} {rs : List (List Int)} {d : Int} : usTo ps rs d rs.length ↔ used ps rs d := by unfold usTo used; rw [List.take_length]
theorem usTo_zero {ps : List Int} {rs : List (List Int)} {d : Int} : ¬ usTo ps rs d 0 := by unfold usTo; simp
def whTo (ps : List Int) (ns dl : List Int) (k : Nat) : Prop := ∀ d ∈ dl.take k, may ps ns d
theorem whTo_all {ps : List Int} {ds : List Bool} {ns : List Int} {g : Int} (h : whTo ps ns (doorsU ps ds g) (doorsU ps ds g).length) : decide ((0 : Int) < ((doorsU ps ds g).length : Nat)) = decide (whole ps ds ns g) := by
  unfold whTo at h
  rw [List.take_length] at h
  exact decide_eq_decide.2 ⟨fun h1 => ⟨by omega, h⟩, fun h1 => by have := h1.1; omega⟩
theorem wh_any {ps ns dl : List Int} : (!(dl.any fun d => !decide (may ps ns d))) = decide (∀ d ∈ dl, may ps ns d) := by
  rw [Bool.eq_iff_iff, decide_eq_true_eq]; simp
theorem bnotnot {xs : List Int} {p : Int → Bool} : xs.filter (fun x => !(!p x)) = xs.filter p := by simp
theorem acRow_snoc {ps ns dl : List Int} {k : Nat} (h : k < dl.length) : acRow ps ns (dl.take (k + 1)) = acRow ps ns (dl.take k) ++ [if may ps ns dl[k] then 1 else 0] := by
  unfold acRow; rw [List.take_succ_eq_append_getElem h, List.map_append]; rfl
theorem acRow_len {ps ns dl : List Int} : (acRow ps ns dl).length = dl.length := by simp [acRow]
theorem acL_snoc {ps : List Int} {ds : List Bool} {rs : List (List Int)} {k : Nat} (h : k < rs.length) : acL ps ds (rs.take (k + 1)) = acL ps ds (rs.take k) ++ [acRow ps rs[k] (drs ps ds)] := by
  unfold acL; rw [List.take_succ_eq_append_getElem h, List.map_append]; rfl
theorem acL_len {ps : List Int} {ds : List Bool} {rs : List (List Int)} : (acL ps ds rs).length = rs.length := by simp [acL]
theorem filter_take {p : Int → Bool} {xs : List Int} {k : Nat} (h : k < xs.length) : (xs.take (k + 1)).filter p = if p xs[k] = true then (xs.take k).filter p ++ [xs[k]] else (xs.take k).filter p := by
  rw [filter_snoc h]; split <;> simp
theorem mem_idxs_door {ps : List Int} {ds : List Bool} {y x : Int} (h : x ∈ doorsU ps ds y) : 0 ≤ x ∧ x < ps.length := by
  obtain ⟨i, h1, h2, rfl⟩ := mem_idxs.1 h
  omega
theorem filter_le {p : Int → Bool} {xs : List Int} : (xs.filter p).length ≤ xs.length := List.length_filter_le _ _
theorem drs_len {ps : List Int} {ds : List Bool} (h : bld ps ds) : (drs ps ds).length ≤ 24 := Nat.le_trans (idxs_le _ _) h.1.1.2
theorem du_len {ps : List Int} {ds : List Bool} (h : bld ps ds) (g : Int) : (doorsU ps ds g).length ≤ 24 := Nat.le_trans (idxs_le _ _) h.1.1.2
theorem rises_inj {ns : List Int} {n : Int} (h : rises ns n) {i k : Nat} (hi : i < ns.length) (hk : k < ns.length) : ns[i] = ns[k] ↔ i = k := by
  refine ⟨fun e => ?_, fun e => by subst e; rfl⟩
  rcases Nat.lt_trichotomy i k with h1 | h1 | h1
  · have := rises_mono h (k - i) i (by omega) (by omega)
    rw [show i + (k - i) = k from by omega, getD_lt hi, getD_lt hk] at this; omega
  · exact h1
  · have := rises_mono h (i - k) k (by omega) (by omega)
    rw [show k + (i - k) = i from by omega, getD_lt hi, getD_lt hk] at this; omega
end B
end Go.Proofs.Ytkkeipogkjlneaa
