/-
  Buildings: the plain side. ps: the parents, ds: which nodes are doors.
-/
import Derived.Test.YtebegkegkdmbjaaDoorNest
namespace Go.Proofs.YtebegkegkdmbjaaDoor
namespace B
open Go.RowKit

def par (ps : List Int) (i : Nat) : Int := ps.getD i 0
def isD (ds : List Bool) (i : Nat) : Bool := ds.getD i false
/-- The first k nodes are in order. -/
def bldTo (ps : List Int) (ds : List Bool) (k : Nat) : Prop := ∀ i, i < k → 1 ≤ i → (0 ≤ par ps i ∧ par ps i ≤ (i : Int) - 1) ∧ isD ds (par ps i).toNat = false
instance (ps : List Int) (ds : List Bool) (k : Nat) : Decidable (bldTo ps ds k) := by unfold bldTo; infer_instance
/-- One of the nodes from 1 to k - 1 is a door. -/
def anyD (ds : List Bool) (k : Nat) : Prop := ∃ i, i < k ∧ (1 ≤ i ∧ isD ds i = true)
instance (ds : List Bool) (k : Nat) : Decidable (anyD ds k) := by unfold anyD; exact Nat.decidableExistsLT _
def bld (ps : List Int) (ds : List Bool) : Prop := ((2 ≤ ps.length ∧ ps.length ≤ 24) ∧ ds.length = ps.length ∧ par ps 0 = -1 ∧ isD ds 0 = false) ∧ bldTo ps ds ps.length ∧ anyD ds ps.length
instance (ps : List Int) (ds : List Bool) : Decidable (bld ps ds) := by unfold bld; infer_instance

theorem bldTo_succ {ps : List Int} {ds : List Bool} {k : Nat} (h : bldTo ps ds k) (h2 : 1 ≤ k → (0 ≤ par ps k ∧ par ps k ≤ (k : Int) - 1) ∧ isD ds (par ps k).toNat = false) : bldTo ps ds (k + 1) :=
  fun i hi h1 => by
    by_cases e : i = k
    · subst e; exact h2 h1
    · exact h i (by omega) h1
theorem anyD_succ {ds : List Bool} {k : Nat} (h1 : 1 ≤ k) : decide (anyD ds (k + 1)) = (decide (anyD ds k) || isD ds k) := by
  rw [Bool.eq_iff_iff, Bool.or_eq_true, decide_eq_true_eq, decide_eq_true_eq]
  constructor
  · rintro ⟨i, hi, h2, h3⟩
    by_cases e : i = k
    · subst e; exact .inr h3
    · exact .inl ⟨i, by omega, h2, h3⟩
  · rintro (⟨i, hi, h2, h3⟩ | h)
    · exact ⟨i, by omega, h2, h3⟩
    · exact ⟨k, by omega, h1, h⟩
theorem anyD_one (ds : List Bool) : ¬ anyD ds 1 := fun ⟨i, h1, h2, _⟩ => by omega

/-- A tree: each parent is less. -/
def tree (ps : List Int) : Prop := ∀ i, i < ps.length → -1 ≤ par ps i ∧ par ps i < (i : Int)
theorem bld_tree {ps : List Int} {ds : List Bool} (h : bld ps ds) : tree ps := fun i hi => by
  by_cases e : i = 0
  · subst e; rw [h.1.2.2.1]; omega
  · have := (h.2.1 i hi (by omega)).1; omega

/-- The nodes that a node is under, itself the first. -/
def ancF (ps : List Int) : Nat → Int → List Int
  | 0, _ => []
  | f + 1, x => if 0 ≤ x then x :: ancF ps f (par ps x.toNat) else []
def ancs (ps : List Int) (x : Int) : List Int := ancF ps (x + 1).toNat x
theorem ancF_more {ps : List Int} (ht : tree ps) : ∀ (f g : Nat) (x : Int), x < ps.length → x < f → x < g → ancF ps f x = ancF ps g x
  | 0, 0, _, _, _, _ => rfl
  | 0, g + 1, x, _, h1, _ => by simp only [ancF]; rw [if_neg (by omega)]
  | f + 1, 0, x, _, _, h1 => by simp only [ancF]; rw [if_neg (by omega)]
  | f + 1, g + 1, x, hx, h1, h2 => by
    simp only [ancF]
    split
    · have := ht x.toNat (by omega)
      rw [ancF_more ht f g _ (by omega) (by omega) (by omega)]
    · rfl
theorem ancs_neg {ps : List Int} {x : Int} (h : x < 0) : ancs ps x = [] := by
  unfold ancs
  cases (x + 1).toNat with
  | zero => rfl
  | succ f => simp only [ancF]; rw [if_neg (by omega)]
theorem ancs_cons {ps : List Int} (ht : tree ps) {x : Int} (h0 : 0 ≤ x) (h1 : x < ps.length) : ancs ps x = x :: ancs ps (par ps x.toNat) := by
  have h2 := ht x.toNat (by omega)
  unfold ancs
  rw [show (x + 1).toNat = x.toNat + 1 from by omega]
  simp only [ancF]
  rw [if_pos h0, ancF_more ht x.toNat (par ps x.toNat + 1).toNat _ (by omega) (by omega) (by omega)]
theorem ancs_len {ps : List Int} (ht : tree ps) : ∀ (f : Nat) (x : Int), x < ps.length → x < f → (ancs ps x).length ≤ f
  | 0, x, _, h => by rw [ancs_neg (by omega)]; simp
  | f + 1, x, hx, h => by
    by_cases h0 : 0 ≤ x
    · rw [ancs_cons ht h0 hx]
      have h2 := ht x.toNat (by omega)
      have := ancs_len ht f (par ps x.toNat) (by omega) (by omega)
      simp only [List.length_cons]; omega
    · rw [ancs_neg (by omega)]; simp
theorem ancs_le {ps : List Int} (ht : tree ps) : ∀ (f : Nat) (x : Int), x < ps.length → x < f → ∀ y ∈ ancs ps x, 0 ≤ y ∧ y ≤ x
  | 0, x, _, h, y, hy => by rw [ancs_neg (by omega)] at hy; simp at hy
  | f + 1, x, hx, h, y, hy => by
    by_cases h0 : 0 ≤ x
    · rw [ancs_cons ht h0 hx, List.mem_cons] at hy
      have h2 := ht x.toNat (by omega)
      rcases hy with rfl | hy
      · omega
      · have := ancs_le ht f (par ps x.toNat) (by omega) (by omega) y hy; omega
    · rw [ancs_neg (by omega)] at hy; simp at hy

/-- A node is under another one. -/
def under (ps : List Int) (x y : Int) : Prop := y ∈ ancs ps x
instance (ps : List Int) (x y : Int) : Decidable (under ps x y) := by unfold under; infer_instance
theorem under_le {ps : List Int} (ht : tree ps) {x y : Int} (hx : x < ps.length) (h : under ps x y) : 0 ≤ y ∧ y ≤ x := by
  by_cases h0 : 0 ≤ x
  · exact ancs_le ht (x + 1).toNat x hx (by omega) y h
  · unfold under at h; rw [ancs_neg (by omega)] at h; simp at h
theorem under_self {ps : List Int} (ht : tree ps) {x : Int} (h0 : 0 ≤ x) (hx : x < ps.length) : under ps x x := by unfold under; rw [ancs_cons ht h0 hx]; simp
theorem under_step {ps : List Int} (ht : tree ps) {x y : Int} (h0 : 0 ≤ x) (hx : x < ps.length) (hne : x ≠ y) : under ps x y ↔ under ps (par ps x.toNat) y := by
  unfold under
  rw [ancs_cons ht h0 hx, List.mem_cons]
  exact ⟨fun h => h.resolve_left (fun e => hne e.symm), .inr⟩
theorem under_root {ps : List Int} {ds : List Bool} (hb : bld ps ds) : ∀ (f : Nat) (x : Int), 0 ≤ x → x < ps.length → x < f → under ps x 0
  | 0, x, h0, _, h => by omega
  | f + 1, x, h0, hx, h => by
    have ht := bld_tree hb
    by_cases e : x = 0
    · subst e; exact under_self ht h0 hx
    · have h2 := (hb.2.1 x.toNat (by omega) (by omega)).1
      exact (under_step ht h0 hx e).2 (under_root hb f _ h2.1 (by omega) (by omega))
theorem under_trans {ps : List Int} (ht : tree ps) : ∀ (f : Nat) (x y z : Int), x < ps.length → x < f → under ps x y → under ps y z → under ps x z
  | 0, x, y, z, hx, h, h1, _ => by unfold under at h1; rw [ancs_neg (by omega)] at h1; simp at h1
  | f + 1, x, y, z, hx, h, h1, h2 => by
    by_cases h0 : 0 ≤ x
    · by_cases e : x = y
      · subst e; exact h2
      · have hp := ht x.toNat (by omega)
        have h3 := under_trans ht f _ y z (by omega) (by omega) ((under_step ht h0 hx e).1 h1) h2
        unfold under at *
        rw [ancs_cons ht h0 hx]; exact List.mem_cons_of_mem _ h3
    · unfold under at h1; rw [ancs_neg (by omega)] at h1; simp at h1

/-- The doors under a node. -/
def dUnder (ps : List Int) (ds : List Bool) (y : Int) (i : Nat) : Bool := isD ds i && decide (under ps (i : Int) y)
def doorsU (ps : List Int) (ds : List Bool) (y : Int) : List Int := idxs (dUnder ps ds y) ps.length
/-- How high the first k nodes are. -/
def hiTo (ps : List Int) : Nat → Nat
  | 0 => 0
  | k + 1 => max (hiTo ps k) (ancs ps (k : Int)).length

/-- Common groups. -/
def allU (ps : List Int) (ns : List Int) (g : Int) : Prop := ∀ x ∈ ns, under ps x g
instance (ps : List Int) (ns : List Int) (g : Int) : Decidable (allU ps ns g) := by unfold allU; infer_instance
def cgTo (ps : List Int) (ns : List Int) : Nat → Int
  | 0 => 0
  | k + 1 => if allU ps ns (k : Int) then (k : Int) else cgTo ps ns k
theorem cgTo_yes {ps : List Int} {ns : List Int} {k : Nat} (h : allU ps ns (k : Int)) : cgTo ps ns (k + 1) = (k : Int) := by simp only [cgTo]; rw [if_pos h]
theorem cgTo_no {ps : List Int} {ns : List Int} {k : Nat} (h : ¬ allU ps ns (k : Int)) : cgTo ps ns (k + 1) = cgTo ps ns k := by simp only [cgTo]; rw [if_neg h]
theorem cgTo_max {ps : List Int} {ns : List Int} {c : Int} (h0 : 0 ≤ c) (hc : allU ps ns c) : ∀ k : Nat, c < k → (∀ g : Nat, g < k → allU ps ns (g : Int) → (g : Int) ≤ c) → cgTo ps ns k = c
  | 0, h, _ => by omega
  | k + 1, h, hm => by
    simp only [cgTo]
    by_cases e : c = k
    · subst e; rw [if_pos hc]
    · rw [if_neg (fun h2 => by have := hm k (by omega) h2; omega)]
      exact cgTo_max h0 hc k (by omega) (fun g hg => hm g (by omega))

/-- The codes. -/
def ncC (ps : List Int) (ds : List Bool) (ks : List Int) : Int := if bld ps ds then (if ∀ x ∈ ks, 0 ≤ x ∧ x ≤ (ps.length : Int) - 1 then 0 else 2) else 1
theorem ncC_zero {ps : List Int} {ds : List Bool} {ks : List Int} : ncC ps ds ks = 0 ↔ bld ps ds ∧ ∀ x ∈ ks, 0 ≤ x ∧ x ≤ (ps.length : Int) - 1 := by
  unfold ncC
  by_cases h : bld ps ds
  · rw [if_pos h]
    by_cases h2 : ∀ x ∈ ks, 0 ≤ x ∧ x ≤ (ps.length : Int) - 1
    · rw [if_pos h2]; exact ⟨fun _ => ⟨h, h2⟩, fun _ => rfl⟩
    · rw [if_neg h2]; exact ⟨fun e => by simp at e, fun e => absurd e.2 h2⟩
  · rw [if_neg h]; exact ⟨fun e => by simp at e, fun e => absurd e.1 h⟩
def hiV (ps : List Int) (ds : List Bool) : Int := if ncC ps ds [] = 0 then (hiTo ps ps.length : Int) else 0
def anV (ps : List Int) (ds : List Bool) (x : Int) : List Int := if ncC ps ds [x] = 0 then ancs ps x else []
def duV (ps : List Int) (ds : List Bool) (y : Int) : List Int := if ncC ps ds [y] = 0 then doorsU ps ds y else []
theorem anV_len (ps : List Int) (ds : List Bool) (x : Int) : (anV ps ds x).length ≤ 24 := by
  unfold anV
  split
  · rename_i h
    obtain ⟨hb, hk⟩ := ncC_zero.1 h
    have hx := hk x (by simp)
    have h24 := hb.1.1
    exact ancs_len (bld_tree hb) 24 x (by omega) (by omega)
  · simp
theorem duV_len (ps : List Int) (ds : List Bool) (y : Int) : (duV ps ds y).length ≤ 24 := by
  unfold duV
  split
  · rename_i h
    obtain ⟨hb, hk⟩ := ncC_zero.1 h
    have h24 := hb.1.1
    exact Nat.le_trans (idxs_le _ _) h24.2
  · simp
/-- The common group: value and code. -/
def cgOk (ps : List Int) (ds : List Bool) (ns : List Int) : Prop := ncC ps ds ns = 0 ∧ 1 ≤ ns.length ∧ ns.length ≤ 24
instance (ps : List Int) (ds : List Bool) (ns : List Int) : Decidable (cgOk ps ds ns) := by unfold cgOk; infer_instance
def cgV (ps : List Int) (ds : List Bool) (ns : List Int) : Int := if cgOk ps ds ns then cgTo ps ns ps.length else 0
def cgC (ps : List Int) (ds : List Bool) (ns : List Int) : Int := if ncC ps ds ns = 0 then (if 1 ≤ ns.length ∧ ns.length ≤ 24 then 0 else 2) else ncC ps ds ns

theorem cg_step {ps : List Int} {ds : List Bool} (hb : bld ps ds) {x c z : Int} (hx0 : 0 ≤ x) (hx : x < ps.length) (hz0 : 0 ≤ z) (hz : z < ps.length) (hn : ¬ under ps x z) (h : ∀ g, (under ps z g ∧ under ps x g) ↔ (under ps c g ∧ under ps x g)) :
    1 ≤ z ∧ (0 ≤ par ps z.toNat ∧ par ps z.toNat < z) ∧ ∀ g, (under ps (par ps z.toNat) g ∧ under ps x g) ↔ (under ps c g ∧ under ps x g) := by
  have ht := bld_tree hb
  have hz1 : 1 ≤ z := Classical.byContradiction fun hh => by
    obtain rfl : z = 0 := by omega
    exact hn (under_root hb (x + 1).toNat x hx0 hx (by omega))
  have hp := (hb.2.1 z.toNat (by omega) (by omega)).1
  refine ⟨hz1, by omega, fun g => ?_⟩
  rw [← h g]
  by_cases e : z = g
  · subst e
    exact ⟨fun hh => absurd hh.2 hn, fun hh => absurd hh.2 hn⟩
  · rw [under_step ht hz0 hz e]
theorem cg_end {ps : List Int} (ht : tree ps) {x c z : Int} (hx : x < ps.length) (hu : under ps x z) (h : ∀ g, (under ps z g ∧ under ps x g) ↔ (under ps c g ∧ under ps x g)) (g : Int) : under ps z g ↔ (under ps c g ∧ under ps x g) := by
  rw [← h g]
  exact ⟨fun hh => ⟨hh, under_trans ht (x + 1).toNat x z g hx (by omega) hu hh⟩, fun hh => hh.1⟩
theorem take_all {ns : List Int} {p : Int → Prop} {i : Nat} (h : i < ns.length) : (∀ x ∈ ns.take (i + 1), p x) ↔ (∀ x ∈ ns.take i, p x) ∧ p ns[i] := by
  rw [List.take_succ_eq_append_getElem h]
  constructor
  · intro hh
    exact ⟨fun x hx => hh x (List.mem_append_left _ hx), hh _ (List.mem_append_right _ (List.mem_singleton.2 rfl))⟩
  · rintro ⟨h1, h2⟩ x hx
    rw [List.mem_append, List.mem_singleton] at hx
    rcases hx with hx | rfl
    · exact h1 x hx
    · exact h2
theorem cg_final {ps : List Int} {ns : List Int} (ht : tree ps) {c : Int} (h0 : 0 ≤ c) (hc : c < ps.length) (h : ∀ g, allU ps ns g ↔ under ps c g) : cgTo ps ns ps.length = c :=
  cgTo_max h0 ((h c).2 (under_self ht h0 hc)) ps.length hc (fun g _ hg => (under_le ht hc ((h g).1 hg)).2)
end B
end Go.Proofs.YtebegkegkdmbjaaDoor
