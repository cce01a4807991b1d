/-
  Slices of slices: what is read (RdN), what is read and lies in known blocks (RuN), what a call has made and may be written (OwN).
-/
import Derived.Test.YtebegkegkdmbjaaDoorOwn
namespace Go.Proofs.YtebegkegkdmbjaaDoor
namespace B
open Go.RowKit

section
variable {α : Type} {f : List α → List Value}

/-- The slices cs read as the lists rs. -/
def RdC (f : List α → List Value) (w : World) (v : Value) (cs : List Value) (rs : List (List α)) : Prop :=
  SV w v cs ∧ cs.length = rs.length ∧ ∀ i, i < rs.length → SV w (cs.getD i undef) (f (rs.getD i []))
def RdN (f : List α → List Value) (w : World) (v : Value) (rs : List (List α)) : Prop := ∃ cs, RdC f w v cs rs

theorem RdC.ext {w w' : World} {v : Value} {cs : List Value} {rs : List (List α)} (h : RdC f w v cs rs) (he : Ext w w') : RdC f w' v cs rs :=
  ⟨h.1.ext he, h.2.1, fun i hi => (h.2.2 i hi).ext he⟩
theorem RdN.ext {w w' : World} {v : Value} {rs : List (List α)} (h : RdN f w v rs) (he : Ext w w') : RdN f w' v rs := by
  obtain ⟨cs, h⟩ := h; exact ⟨cs, h.ext he⟩
theorem RdC.le {w : World} {v : Value} {cs : List Value} {rs : List (List α)} (h : RdC f w v cs rs) : rs.length ≤ 9223372036854775807 := by
  have := h.1.le; rw [h.2.1] at this; exact this
theorem RdC.lt {w : World} {v : Value} {cs : List Value} {rs : List (List α)} (h : RdC f w v cs rs) {k : Nat} (hk : k < rs.length) : k < cs.length := by rw [h.2.1]; exact hk
theorem RdC.at {w : World} {v : Value} {cs : List Value} {rs : List (List α)} (h : RdC f w v cs rs) {k : Nat} (hk : k < rs.length) : cs[k]? = some (cs.getD k undef) := by
  have := h.lt hk
  simp [List.getD, List.getElem?_eq_getElem this]
theorem RdC.row {w : World} {v : Value} {cs : List Value} {rs : List (List α)} (h : RdC f w v cs rs) {k : Nat} (hk : k < rs.length) : SV w (cs.getD k undef) (f rs[k]) := by
  have := h.2.2 k hk
  rwa [getD_lt hk] at this

/-- The block of v lies from B up to U. -/
def InB (B U : Nat) (v : Value) : Prop := ∀ b, v.ownBlock = some b → B ≤ b ∧ b < U
/-- Two slices have no block in common. -/
def NB (a b : Value) : Prop := ∀ x, a.ownBlock = some x → b.ownBlock ≠ some x

def RuN (f : List α → List Value) (w : World) (B U : Nat) (v : Value) (rs : List (List α)) : Prop :=
  ∃ cs, RdC f w v cs rs ∧ InB B U v ∧ U ≤ w.heap.size ∧ ∀ i, i < rs.length → InB B U (cs.getD i undef)

def OwC (f : List α → List Value) (e te : TypeId) (w : World) (B U : Nat) (v : Value) (cs : List Value) (rs : List (List α)) : Prop :=
  OU w B U te v cs ∧ cs.length = rs.length ∧ (∀ i, i < rs.length → OU w B U e (cs.getD i undef) (f (rs.getD i [])) ∧ NB (cs.getD i undef) v) ∧
    ∀ i j, i < j → j < rs.length → NB (cs.getD i undef) (cs.getD j undef)
def OwN (f : List α → List Value) (e te : TypeId) (w : World) (B U : Nat) (v : Value) (rs : List (List α)) : Prop := ∃ cs, OwC f e te w B U v cs rs

variable {w w' : World} {B U e te : Nat} {v : Value} {cs : List Value} {rs : List (List α)}

theorem NB.symm {a b : Value} (h : NB a b) : NB b a := fun x h1 h2 => h x h2 h1

theorem OwC.rdc (h : OwC f e te w B U v cs rs) : RdC f w v cs rs := ⟨h.1.sv, h.2.1, fun i hi => (h.2.2.1 i hi).1.sv⟩
theorem OwN.rd (h : OwN f e te w B U v rs) : RdN f w v rs := by obtain ⟨cs, h⟩ := h; exact ⟨cs, h.rdc⟩
theorem OwN.ru (h : OwN f e te w B U v rs) : RuN f w B U v rs := by
  obtain ⟨cs, h⟩ := h
  exact ⟨cs, h.rdc, h.1.lt, h.1.2.1, fun i hi => (h.2.2.1 i hi).1.lt⟩
theorem RuN.rd (h : RuN f w B U v rs) : RdN f w v rs := by obtain ⟨cs, h, _⟩ := h; exact ⟨cs, h⟩
theorem RuN.ext (h : RuN f w B U v rs) (he : Ext w w') : RuN f w' B U v rs := by
  obtain ⟨cs, h1, h2, h3, h4⟩ := h; exact ⟨cs, h1.ext he, h2, Nat.le_trans h3 he.size, h4⟩
theorem OwC.ext (h : OwC f e te w B U v cs rs) (he : Ext w w') : OwC f e te w' B U v cs rs :=
  ⟨h.1.ext he, h.2.1, fun i hi => ⟨(h.2.2.1 i hi).1.ext he, (h.2.2.1 i hi).2⟩, h.2.2.2⟩
theorem OwN.ext (h : OwN f e te w B U v rs) (he : Ext w w') : OwN f e te w' B U v rs := by obtain ⟨cs, h⟩ := h; exact ⟨cs, h.ext he⟩
theorem OwC.mod {B' U' : Nat} (h : OwC f e te w B U v cs rs) (hm : Mod B' U' w w') (hd : U ≤ B' ∨ U' ≤ B) : OwC f e te w' B U v cs rs :=
  ⟨h.1.mod hm hd, h.2.1, fun i hi => ⟨(h.2.2.1 i hi).1.mod hm hd, (h.2.2.1 i hi).2⟩, h.2.2.2⟩
theorem OwN.mod {B' U' : Nat} (h : OwN f e te w B U v rs) (hm : Mod B' U' w w') (hd : U ≤ B' ∨ U' ≤ B) : OwN f e te w' B U v rs := by
  obtain ⟨cs, h⟩ := h; exact ⟨cs, h.mod hm hd⟩
theorem SV.mod' {B' U' : Nat} {vs : List Value} (h : SV w v vs) (hi : InB B U v) (hm : Mod B' U' w w') (hd : U ≤ B' ∨ U' ≤ B) : SV w' v vs :=
  h.mod hm fun b hb _ hh => by have := hi b hb; omega
theorem RuN.mod {B' U' : Nat} (h : RuN f w B U v rs) (hm : Mod B' U' w w') (hd : U ≤ B' ∨ U' ≤ B) : RuN f w' B U v rs := by
  obtain ⟨cs, h1, h2, h3, h4⟩ := h
  exact ⟨cs, ⟨h1.1.mod' h2 hm hd, h1.2.1, fun i hi => (h1.2.2 i hi).mod' (h4 i hi) hm hd⟩, h2, Nat.le_trans h3 hm.size, h4⟩
theorem OwN.of (h : OwN f e te w B U v rs) : OwN f e te w B U v rs := h
theorem RuN.of (h : RuN f w B U v rs) : RuN f w B U v rs := h
theorem OwN.wide {B' U' : Nat} (h : OwN f e te w B U v rs) (h1 : B' ≤ B) (h2 : U ≤ U') (h3 : U' ≤ w.heap.size) : OwN f e te w B' U' v rs := by
  obtain ⟨cs, h⟩ := h
  exact ⟨cs, h.1.wide h1 h2 h3, h.2.1, fun i hi => ⟨(h.2.2.1 i hi).1.wide h1 h2 h3, (h.2.2.1 i hi).2⟩, h.2.2.2⟩
theorem RuN.wide {B' U' : Nat} (h : RuN f w B U v rs) (h1 : B' ≤ B) (h2 : U ≤ U') (h3 : U' ≤ w.heap.size) : RuN f w B' U' v rs := by
  obtain ⟨cs, h, g1, g2, g3⟩ := h
  exact ⟨cs, h, fun b hb => by have := g1 b hb; omega, h3, fun i hi b hb => by have := g3 i hi b hb; omega⟩

theorem OU.other {vs : List Value} {c : Value} (h : OU w B U e v vs) (hg : w.grownBy w' c.ownBlock) (hn : NB v c) : OU w' B U e v vs := by
  refine ⟨h.1.grown hg ?_, Nat.le_trans h.2.1 hg.size, h.2.2⟩
  cases hv : v.ownBlock with
  | none => cases hc : c.ownBlock with
    | none => exact .inr rfl
    | some k => exact .inl (by simp)
  | some k => exact .inl (fun hh => hn k hv hh.symm)

/-- One row is turned. -/
theorem OwC.turn {i : Nat} {r : List α} (h : OwC f e te w B U v cs rs) (hi : i < rs.length) (hg : w.grownBy w' (cs.getD i undef).ownBlock) (ho : OV w' B e (cs.getD i undef) (f r)) : OwC f e te w' B U v cs (rs.set i r) := by
  have hU : U ≤ w'.heap.size := Nat.le_trans h.1.2.1 hg.size
  refine ⟨h.1.other hg (h.2.2.1 i hi).2.symm, by simpa using h.2.1, fun j hj => ?_, fun a b hab hb => h.2.2.2 a b hab (by simpa using hb)⟩
  rw [List.length_set] at hj
  refine ⟨?_, (h.2.2.1 j hj).2⟩
  by_cases e : i = j
  · subst e
    have : (rs.set i r).getD i [] = r := by simp [List.getD, hj]
    rw [this]
    exact ⟨ho, hU, (h.2.2.1 i hj).1.2.2⟩
  · have : (rs.set i r).getD j [] = rs.getD j [] := by simp [List.getD, e]
    rw [this]
    refine (h.2.2.1 j hj).1.other hg ?_
    rcases Nat.lt_or_gt_of_ne e with h1 | h1
    · exact (h.2.2.2 i j h1 hj).symm
    · exact h.2.2.2 j i h1 hi

/-- A row of one slice value more. -/
theorem getD_snoc {β : Type} {l : List β} {x d : β} {i : Nat} : (l ++ [x]).getD i d = if i < l.length then l.getD i d else if i = l.length then x else d := by
  by_cases h : i < l.length
  · rw [if_pos h]; simp [List.getD, List.getElem?_append, h]
  · rw [if_neg h]
    by_cases h2 : i = l.length
    · subst h2; simp [List.getD]
    · rw [if_neg h2]
      have : (l ++ [x])[i]? = none := List.getElem?_eq_none (by simp; omega)
      simp [List.getD, this]

/-- The cells that a list of slices holds are one cell each. -/
theorem slice_one {w : World} {v : Value} {vs : List Value} (h : SV w v vs) : v.oneCell' = true := by
  obtain ⟨ao, cap, rfl, _⟩ := h.shape; rfl
end

/-- A row more. -/
theorem OwC.push {α : Type} {f : List α → List Value} {e te B U : Nat} {w3 w4 : World} {v v' c : Value} {cs : List Value} {rs : List (List α)} {r : List α} (h : OwC f e te w3 B U v cs rs) (hc : OV w3 B e c (f r)) (hlow : ∀ b, c.ownBlock = some b → U ≤ b)
    (hv' : OV w4 B te v' (cs ++ [c])) (hg : w3.grownBy w4 v.ownBlock) (hb : v'.ownBlock = v.ownBlock ∨ ∃ b, v'.ownBlock = some b ∧ w3.heap.size ≤ b) : OwC f e te w4 B w4.heap.size v' (cs ++ [c]) (rs ++ [r]) := by
  have hsz := hg.size
  have hcs := h.2.1
  have hU := h.1.2.1
  have low : ∀ i, i < rs.length → ∀ b, (cs.getD i undef).ownBlock = some b → b < U := fun i hi b hb => ((h.2.2.1 i hi).1.lt b hb).2
  have hcb := hc.lt
  have nbv : ∀ {x : Value}, NB x v → (∀ b, x.ownBlock = some b → b < w3.heap.size) → NB x v' := fun {x} hx hl b h1 h2 => by
    rcases hb with h3 | ⟨b', h3, h4⟩
    · rw [h3] at h2; exact hx b h1 h2
    · rw [h3] at h2; have := hl b h1; simp only [Option.some.injEq] at h2; omega
  have nbc : NB c v := fun b h1 h2 => by have := hlow b h1; have := h.1.2.2 b h2; omega
  refine ⟨⟨hv', Nat.le_refl _, fun b hb => (hv'.lt b hb).2⟩, by simp [h.2.1], fun i hi => ?_, fun i j hij hj => ?_⟩
  · rw [List.length_append, List.length_singleton] at hi
    by_cases hi' : i < rs.length
    · have hi'' := hi'
      rw [← h.2.1] at hi''
      rw [getD_snoc, if_pos hi'', getD_snoc, if_pos hi']
      obtain ⟨h1, h2⟩ := h.2.2.1 i hi'
      exact ⟨(h1.other hg h2).wide (Nat.le_refl _) (by omega) (Nat.le_refl _), nbv h2 (fun b hb => by have := low i hi' b hb; omega)⟩
    · have hie : i = rs.length := by omega
      have e1 : (cs ++ [c]).getD i undef = c := by rw [getD_snoc, if_neg (by omega), if_pos (by omega)]
      have e2 : (rs ++ [r]).getD i [] = r := by rw [getD_snoc, if_neg (by omega), if_pos (by omega)]
      rw [e1, e2]
      have hcu : OU w3 B w3.heap.size e c (f r) := ⟨hc, Nat.le_refl _, fun b hb => (hc.lt b hb).2⟩
      exact ⟨(hcu.other hg nbc).wide (Nat.le_refl _) hsz (Nat.le_refl _), nbv nbc (fun b hb => (hcb b hb).2)⟩
  · rw [List.length_append, List.length_singleton] at hj
    have hi' : i < rs.length := by omega
    have hi'' := hi'
    rw [← h.2.1] at hi''
    rw [getD_snoc, if_pos hi'']
    by_cases hj' : j < rs.length
    · rw [getD_snoc, if_pos (by rw [h.2.1]; exact hj')]
      exact h.2.2.2 i j hij hj'
    · have e1 : (cs ++ [c]).getD j undef = c := by rw [getD_snoc, if_neg (by rw [h.2.1]; exact hj'), if_pos (by rw [h.2.1]; omega)]
      rw [e1]
      exact fun b h1 h2 => by have := low i hi' b h1; have := hlow b h2; omega

theorem OwC.nil {α : Type} {f : List α → List Value} {e te B : Nat} {w : World} {v : Value} (h : OV w B te v []) : OwC f e te w B w.heap.size v [] [] :=
  ⟨⟨h, Nat.le_refl _, fun b hb => (h.lt b hb).2⟩, rfl, fun i hi => absurd hi (Nat.not_lt_zero i), fun _ j _ hj => absurd hj (Nat.not_lt_zero j)⟩
theorem RuN.nil {α : Type} {f : List α → List Value} (w : World) (B : Nat) : RuN f w B w.heap.size (.slice none 0 0) ([] : List (List α)) :=
  ⟨[], ⟨SV.nil w, rfl, fun i hi => absurd hi (Nat.not_lt_zero i)⟩, fun b hb => by simp [Value.ownBlock] at hb, Nat.le_refl _, fun i hi => absurd hi (Nat.not_lt_zero i)⟩
theorem OwN.nil {α : Type} {f : List α → List Value} {e te : Nat} (w : World) (B : Nat) : OwN f e te w B w.heap.size (.slice none 0 0) ([] : List (List α)) := ⟨[], OwC.nil (OV.nil w B te)⟩

theorem two_rows {α : Type} {f : List α → List Value} {w : World} {a b : Value} {xs ys : List α} (ha : SV w a (f xs)) (hb : SV w b (f ys)) {i : Nat} (hi : i < [xs, ys].length) : SV w ([a, b].getD i undef) (f ([xs, ys].getD i [])) := by
  match i, hi with
  | 0, _ => exact ha
  | 1, _ => exact hb

theorem ov_other {w w' : World} {B e : Nat} {v c : Value} {vs : List Value} (h : OV w B e v vs) (hg : w.grownBy w' c.ownBlock) (hn : NB v c) : OV w' B e v vs := by
  refine h.grown hg ?_
  cases hv : v.ownBlock with
  | none => cases hc : c.ownBlock with
    | none => exact .inr rfl
    | some k => exact .inl (by simp)
  | some k => exact .inl (fun hh => hn k hv hh.symm)
theorem snoc_step {β : Type} {ds : List β} {z x : β} {k n : Nat} (h : ds.length = k) (hk : k < n) : (ds ++ List.replicate (n - k) z).set k x = (ds ++ [x]) ++ List.replicate (n - (k + 1)) z := by
  rw [List.set_append_right _ _ (by omega), h, Nat.sub_self, show n - k = (n - (k + 1)) + 1 from by omega, List.replicate_succ, List.set_cons_zero, List.append_assoc]
  rfl
theorem rows_snoc {P : Nat → Value → Prop} {ds : List Value} {x : Value} {k : Nat} (h : ds.length = k) (ha : ∀ i, i < k → P i (ds.getD i undef)) (hx : P k x) : ∀ i, i < k + 1 → P i ((ds ++ [x]).getD i undef) := by
  intro i hi
  by_cases h2 : i < k
  · rw [getD_snoc, if_pos (by omega)]; exact ha i h2
  · obtain rfl : i = k := by omega
    rw [getD_snoc, if_neg (by omega), if_pos h.symm]; exact hx
theorem apart_snoc {ds : List Value} {x : Value} {k : Nat} (h : ds.length = k) (ha : ∀ i j, i < j → j < k → NB (ds.getD i undef) (ds.getD j undef)) (hx : ∀ i, i < k → NB (ds.getD i undef) x) : ∀ i j, i < j → j < k + 1 → NB ((ds ++ [x]).getD i undef) ((ds ++ [x]).getD j undef) := by
  intro i j hij hj
  rw [getD_snoc, if_pos (by omega : i < ds.length)]
  by_cases h2 : j < k
  · rw [getD_snoc, if_pos (by omega)]; exact ha i j hij h2
  · obtain rfl : j = k := by omega
    rw [getD_snoc, if_neg (by omega), if_pos h.symm]; exact hx i (by omega)

/-- How many elements there are in the rows. -/
def tot {α : Type} : List (List α) → Nat
  | [] => 0
  | r :: rs => r.length + tot rs
def sizeN {α : Type} (rs : List (List α)) : Nat := rs.length + tot rs
theorem sizeN_tot {α : Type} (rs : List (List α)) : tot rs ≤ sizeN rs := by unfold sizeN; omega
theorem tot_append {α : Type} : ∀ (a b : List (List α)), tot (a ++ b) = tot a + tot b
  | [], b => by simp [tot]
  | r :: a, b => by simp [tot, tot_append a b]; omega
theorem tot_snoc {α : Type} {rs : List (List α)} {k : Nat} (h : k < rs.length) : tot (rs.take (k + 1)) = tot (rs.take k) + rs[k].length := by
  rw [List.take_succ_eq_append_getElem h, tot_append]; simp [tot]
theorem tot_take {α : Type} (rs : List (List α)) (k : Nat) : tot (rs.take k) ≤ tot rs := by
  have := tot_append (rs.take k) (rs.drop k)
  rw [List.take_append_drop] at this; omega
theorem tot_mem {α : Type} : ∀ {rs : List (List α)} {r : List α}, r ∈ rs → r.length ≤ tot rs
  | [], _, h => by simp at h
  | r :: rs, s, h => by
    simp only [List.mem_cons] at h
    simp only [tot]
    rcases h with rfl | h
    · omega
    · have := tot_mem h; omega
theorem tot_get {α : Type} {rs : List (List α)} {k : Nat} (h : k < rs.length) : rs[k].length ≤ tot rs := tot_mem (List.getElem_mem h)

/-- What is left of a measure. -/
def szV (n : Nat) (left : Int) : Int := if left - n < 0 then -1 else left - n
theorem szV_ok {n : Nat} {left : Int} (h : ¬ szV n left < 0) : (n : Int) ≤ left ∧ szV n left = left - n := by
  unfold szV at h ⊢
  split at h
  · omega
  · rw [if_neg (by assumption)]; omega
theorem szV_no {n : Nat} {left : Int} (h : left - n < 0) : szV n left = -1 := if_pos h
theorem szV_yes {n : Nat} {left : Int} (h : ¬ left - n < 0) : szV n left = left - n := if_neg h

/-! ### marks on rows -/
def marksN : List (List Int) → Int → List (List Int)
  | [], _ => []
  | r :: rs, k => marks r.length k :: marksN rs (k + r.length)
def heldN : List (List Int) → Int → Int
  | [], k => k
  | r :: rs, k => if heldI r k < 0 then -1 else heldN rs (heldI r k)
theorem marksN_len : ∀ (rs : List (List Int)) (k : Int), (marksN rs k).length = rs.length
  | [], _ => rfl
  | r :: rs, k => by simp [marksN, marksN_len rs]
theorem marksN_tot : ∀ (rs : List (List Int)) (k : Int), tot (marksN rs k) = tot rs
  | [], _ => rfl
  | r :: rs, k => by simp [marksN, tot, marksN_tot rs, marks_len]
theorem marksN_snoc : ∀ (rs : List (List Int)) (r : List Int) (k : Int), marksN (rs ++ [r]) k = marksN rs k ++ [marks r.length (k + (tot rs : Nat))]
  | [], r, k => by simp [marksN, tot]
  | s :: rs, r, k => by
    simp only [List.cons_append, marksN, marksN_snoc rs, tot]
    rw [show k + (s.length : Int) + ((tot rs : Nat) : Int) = k + ((s.length + tot rs : Nat) : Int) from by omega]
theorem heldN_marks : ∀ (rs : List (List Int)) (k : Int), 0 ≤ k → heldN (marksN rs k) k = k + (tot rs : Nat)
  | [], k, _ => by simp [marksN, heldN, tot]
  | r :: rs, k, h => by
    simp only [marksN, heldN, heldI_marks]
    rw [if_neg (by omega), heldN_marks rs _ (by omega)]
    simp [tot]; omega
theorem heldI_range (r : List Int) (k : Int) : heldI r k = -1 ∨ heldI r k = k + r.length := by
  unfold heldI; split
  · exact .inr rfl
  · exact .inl rfl
theorem marksN_step {rs : List (List Int)} {k : Nat} {k0 : Int} (h : k < rs.length) :
    (marksN (rs.take k) k0 ++ rs.drop k).set k (marks rs[k].length (k0 + (tot (rs.take k) : Nat))) = marksN (rs.take (k + 1)) k0 ++ rs.drop (k + 1) := by
  have hl : (marksN (rs.take k) k0).length = k := by rw [marksN_len]; simp; omega
  rw [List.set_append_right _ _ (by omega), hl, List.drop_eq_getElem_cons h, Nat.sub_self, List.set_cons_zero, List.take_succ_eq_append_getElem h, marksN_snoc, List.append_assoc]
  rfl
theorem marksN_at {rs : List (List Int)} {k : Nat} {k0 : Int} (h : k < rs.length) : (marksN (rs.take k) k0 ++ rs.drop k).getD k [] = rs[k] := by
  have hl : (marksN (rs.take k) k0).length = k := by rw [marksN_len]; simp; omega
  rw [List.getD, List.getElem?_append_right (by omega), hl, Nat.sub_self, List.drop_eq_getElem_cons h]
  rfl
theorem heldN_step {rs : List (List Int)} {k : Nat} {x : Int} (h : k < rs.length) : heldN (rs.drop k) x = if heldI rs[k] x < 0 then -1 else heldN (rs.drop (k + 1)) (heldI rs[k] x) := by
  rw [List.drop_eq_getElem_cons h]; rfl
end B
end Go.Proofs.YtebegkegkdmbjaaDoor
