/-
  The head of a slice of one's own is one's own; slices of slices whose rows may be shared.
-/
import Derived.Test.YtaepdknmagaokaaCut
import Derived.Test.YtaepdknmagaokaaDraw
namespace Go.Proofs.Ytaepdknmagaokaa
namespace B
open Go.RowKit

theorem OV.cutp {w : World} {B e : Nat} {v : Value} {vs : List Value} {k : Nat} (h : OV w B e v vs) (hk : k ≤ vs.length) : OV w B e (vcut v 0 k) (vs.take k) := by
  have hl : (vs.take k).length = k := by simp; omega
  obtain ⟨h1, h2⟩ := h
  refine ⟨by rw [Nat.mul_one], ?_⟩
  rw [hl]
  rcases h2 with ⟨rfl, h0⟩ | ⟨g, cap, cur, rfl, hb, hg, hn, hc, hs, ht⟩
  · left
    have : k = 0 := by omega
    subst this
    exact ⟨by unfold vcut; simp [sliced], rfl⟩
  · right
    refine ⟨g, cap, cur, ?_, hb, hg, by omega, hc, hs, ?_⟩
    · unfold vcut
      by_cases h0 : cap = 0
      · subst h0; simp [sliced]
      · simp [sliced, h0, Addr.add]
    · rw [Nat.mul_one] at ht ⊢
      rw [← ht, List.take_take, Nat.min_eq_left hk]
theorem OwC.cutp {α : Type} {f : List α → List Value} {e te B U : Nat} {w : World} {v : Value} {cs : List Value} {rs : List (List α)} {k : Nat} (h : OwC f e te w B U v cs rs) (hk : k ≤ rs.length) : OwC f e te w B U (vcut v 0 k) (cs.take k) (rs.take k) := by
  refine ⟨⟨h.1.1.cutp (by rw [h.2.1]; exact hk), h.1.2.1, fun b hb => h.1.2.2 b (vcut_block b hb)⟩, by simp [h.2.1], fun i hi => ?_, fun i j hij hj => ?_⟩
  · simp only [List.length_take] at hi
    rw [getD_take (by omega), getD_take (by omega)]
    exact ⟨(h.2.2.1 i (by omega)).1, fun x h1 h2 => (h.2.2.1 i (by omega)).2 x h1 (vcut_block x h2)⟩
  · simp only [List.length_take] at hj
    rw [getD_take (by omega), getD_take (by omega)]
    exact h.2.2.2 i j hij (by omega)

/-- Slices of slices whose rows may be shared among each other. -/
def OwW {α : Type} (f : List α → List Value) (te : TypeId) (w : World) (B : Nat) (v : Value) (cs : List Value) (rs : List (List α)) : Prop :=
  OV w B te v cs ∧ cs.length = rs.length ∧ ∀ i, i < rs.length → SV w (cs.getD i undef) (f (rs.getD i [])) ∧ NB (cs.getD i undef) v ∧ InB B w.heap.size (cs.getD i undef)
section
variable {α : Type} {f : List α → List Value} {e te B U : Nat} {w w' : World} {v : Value} {cs : List Value} {rs : List (List α)}
theorem OwC.ww (h : OwC f e te w B U v cs rs) : OwW f te w B v cs rs :=
  ⟨h.1.1, h.2.1, fun i hi => ⟨(h.2.2.1 i hi).1.sv, (h.2.2.1 i hi).2, fun b hb => by have := (h.2.2.1 i hi).1.lt b hb; have := h.1.2.1; omega⟩⟩
theorem OwW.drawn {b : Nat} (h : OwW f te w B v cs rs) (hd : Drawn w b w') (hb : b < B) : OwW f te w' B v cs rs :=
  ⟨h.1.drawn hd hb, h.2.1, fun i hi => ⟨SV.mod' (h.2.2 i hi).1 (h.2.2 i hi).2.2 hd.2 (.inr (by omega)), (h.2.2 i hi).2.1, fun x hx => by have := (h.2.2 i hi).2.2 x hx; have := hd.size; omega⟩⟩
theorem OwW.mono {B' : Nat} (h : OwW f te w B v cs rs) (hb : B' ≤ B) : OwW f te w B' v cs rs :=
  ⟨h.1.mono hb, h.2.1, fun i hi => ⟨(h.2.2 i hi).1, (h.2.2 i hi).2.1, fun x hx => by have := (h.2.2 i hi).2.2 x hx; omega⟩⟩
theorem OwW.ru (h : OwW f te w B v cs rs) : RuN f w B w.heap.size v rs :=
  ⟨cs, ⟨h.1.sv, h.2.1, fun i hi => (h.2.2 i hi).1⟩, fun b hb => h.1.lt b hb, Nat.le_refl _, fun i hi b hb => (h.2.2 i hi).2.2 b hb⟩
theorem OwW.push {v' c : Value} {r : List α} (h : OwW f te w B v cs rs) (hc : SV w c (f r)) (hi : InB B w.heap.size c) (hn : NB c v)
    (hv' : OV w' B te v' (cs ++ [c])) (hg : w.grownBy w' v.ownBlock) (hb : v'.ownBlock = v.ownBlock ∨ ∃ b, v'.ownBlock = some b ∧ w.heap.size ≤ b) : OwW f te w' B v' (cs ++ [c]) (rs ++ [r]) := by
  have hsz := hg.size
  have one : ∀ {x : Value} {vs : List Value}, SV w x vs → InB B w.heap.size x → NB x v → SV w' x vs ∧ NB x v' ∧ InB B w'.heap.size x := fun {x vs} h1 h2 h3 =>
    ⟨h1.keep (fun y hy h0 => hg.block y (h1.lt h0 y hy) (fun e => h3 y hy e.symm)), fun y h4 h5 => by
      rcases hb with hb | ⟨b, hb, hb2⟩
      · rw [hb] at h5; exact h3 y h4 h5
      · rw [hb] at h5; have := h2 y h4; simp only [Option.some.injEq] at h5; omega, fun y hy => by have := h2 y hy; omega⟩
  refine ⟨hv', by simp [h.2.1], fun i hlt => ?_⟩
  have hcl := h.2.1
  by_cases e1 : i < rs.length
  · have e2 : (cs ++ [c]).getD i undef = cs.getD i undef := by simp [List.getD, List.getElem?_append_left (show i < cs.length by omega)]
    have e3 : (rs ++ [r]).getD i [] = rs.getD i [] := by simp [List.getD, List.getElem?_append_left e1]
    rw [e2, e3]
    exact one (h.2.2 i e1).1 (h.2.2 i e1).2.2 (h.2.2 i e1).2.1
  · have e4 : i = rs.length := by simp at hlt; omega
    subst e4
    have e2 : (cs ++ [c]).getD rs.length undef = c := by rw [← hcl]; simp [List.getD]
    have e3 : (rs ++ [r]).getD rs.length [] = r := by simp [List.getD]
    rw [e2, e3]
    exact one hc hi hn
end
end B
end Go.Proofs.Ytaepdknmagaokaa
