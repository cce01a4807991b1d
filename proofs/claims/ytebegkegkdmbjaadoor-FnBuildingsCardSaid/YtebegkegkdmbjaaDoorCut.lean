/-
  Slices of slices by their bounds.
-/
import Derived.Test.YtebegkegkdmbjaaDoorNest
import Derived.Laws.Slices
namespace Go.Proofs.YtebegkegkdmbjaaDoor
namespace B
open Go.RowKit

@[irreducible] def vcut (v : Value) (l h : Nat) : Value := match v with | .slice a _ cap => sliced a l h cap 1 | _ => undef

theorem SV.cut {w : World} {v : Value} {vs : List Value} {l h : Nat} (hv : SV w v vs) (h1 : l ≤ h) (h2 : h ≤ vs.length) : SV w (vcut v l h) ((vs.take h).drop l) := by
  have hlen : ((vs.take h).drop l).length = h - l := by simp; omega
  unfold vcut
  by_cases h0 : h - l = 0
  · have he : (vs.take h).drop l = [] := List.eq_nil_of_length_eq_zero (by omega)
    rw [he]
    obtain ⟨ao, cap, rfl, hc, hm, hn⟩ := hv.shape
    show SV w (sliced ao l h cap 1) []
    unfold sliced
    rw [h0]
    refine .inl ⟨_, _, rfl, rfl, fun hh => ?_, by omega⟩
    cases ao with
    | none => rw [hn rfl]; omega
    | some a => split at hh <;> simp at hh
  · rcases hv with ⟨ao, cap, rfl, rfl, _⟩ | ⟨b, off, cap, cur, e, fz, rfl, g0, g1, g2, g3, g4⟩
    · simp at h2; omega
    · refine .inr ⟨b, off + l, cap - l, cur, e, fz, ?_, by omega, by omega, by omega, g3, fun j hj => ?_⟩
      · rw [hlen]
        simp only [sliced]
        rw [if_neg (by omega)]
        simp [Addr.add]
      · rw [hlen] at hj
        rw [List.getElem?_drop, List.getElem?_take, if_pos (by omega), ← g4 (l + j) (by omega), Nat.add_assoc]

theorem vcut_block {v : Value} {l h : Nat} : ∀ b, (vcut v l h).ownBlock = some b → v.ownBlock = some b := by
  intro b hb
  unfold vcut at hb
  split at hb
  · rename_i a n cap
    cases a with
    | none =>
      simp only [sliced, Option.map_none, ite_self] at hb
      simp [Value.ownBlock] at hb
    | some a =>
      simp only [sliced] at hb
      by_cases hc : cap = l
      · rw [if_pos hc] at hb; simpa [Value.ownBlock] using hb
      · rw [if_neg hc] at hb
        simp only [Option.map_some, Value.ownBlock, Option.some.injEq] at hb
        unfold Addr.add at hb
        split at hb <;> simpa [Value.ownBlock] using hb
  · simp [Value.ownBlock, undef] at hb

theorem getD_take {β : Type} {l : List β} {d : β} {i k : Nat} (h : i < k) : (l.take k).getD i d = l.getD i d := by simp [List.getD, h]
theorem RdC.cut {α : Type} {f : List α → List Value} {w : World} {v : Value} {cs : List Value} {rs : List (List α)} {k : Nat} (h : RdC f w v cs rs) (hk : k ≤ rs.length) : RdC f w (vcut v 0 k) (cs.take k) (rs.take k) := by
  refine ⟨?_, by simp [h.2.1], fun i hi => ?_⟩
  · have := h.1.cut (Nat.zero_le k) (by rw [h.2.1]; exact hk)
    simpa using this
  · simp only [List.length_take] at hi
    rw [getD_take (by omega), getD_take (by omega)]
    exact h.2.2 i (by omega)
theorem OwC.cut {α : Type} {f : List α → List Value} {e te B U : Nat} {w : World} {v : Value} {cs : List Value} {rs : List (List α)} {k : Nat} (h : OwC f e te w B U v cs rs) (hk : k ≤ rs.length) (hU : U ≤ w.heap.size) : RuN f w B w.heap.size (vcut v 0 k) (rs.take k) := by
  refine ⟨_, h.rdc.cut hk, fun b hb => ?_, Nat.le_refl _, fun i hi b hb => ?_⟩
  · have := h.1.lt b (vcut_block b hb); omega
  · simp only [List.length_take] at hi
    rw [getD_take (by omega)] at hb
    have := (h.2.2.1 i (by omega)).1.lt b hb; omega

section
variable {P : Program} {C : World → Prop} {E : List (Nat × Value)} {ty : TypeId} {T e : TypeId} {z v : Value} {bytes : Nat} {vs : List Value}

theorem y_minN {x y : Operand} {k : IntKind} {a b : Nat} {tys : Array TypeId} (hx : ev E x = .int k a) (hy : ev E y = .int k b) : Yields P C E (.call ⟨.builtin .min, #[x, y], tys⟩) ty (.int k ((min a b : Nat) : Int)) := by
  have := y_min (P := P) (C := C) (ty := ty) (tys := tys) hx hy
  rwa [show min (a : Int) (b : Int) = ((min a b : Nat) : Int) from by omega] at this
theorem y_maxN {x y : Operand} {k : IntKind} {a b : Nat} {tys : Array TypeId} (hx : ev E x = .int k a) (hy : ev E y = .int k b) : Yields P C E (.call ⟨.builtin .max, #[x, y], tys⟩) ty (.int k ((max a b : Nat) : Int)) := by
  have := y_max (P := P) (C := C) (ty := ty) (tys := tys) hx hy
  rwa [show max (a : Int) (b : Int) = ((max a b : Nat) : Int) from by omega] at this
theorem SliceT.elem (hT : SliceT P T e z bytes) : P.elem T = e := by
  unfold Program.elem; simp [hT.und]

theorem y_cut {x : Operand} {lo hi : Option Operand} {l h : Nat} (hT : SliceT P T e z bytes) (hv : ∀ w, C w → SV w v vs) (h1 : l ≤ h) (h2 : h ≤ vs.length) (hx : ev E x = v)
    (hl : (lo = none ∧ l = 0) ∨ ∃ o k, lo = some o ∧ ev E o = .int k l) (hh : (hi = none ∧ h = vs.length) ∨ ∃ o k, hi = some o ∧ ev E o = .int k h) : Yields P C E (.slice T x lo hi none) ty (vcut v l h) :=
  ⟨fun w hw d pos af g => by
    obtain ⟨ao, cap, rfl, hc, hm, hn⟩ := (hv w hw).shape
    have hel := hT.elem
    have hu : P.underlying T = some (.slice (P.elem T)) := by rw [hel]; exact hT.und
    have hs := hT.size (w := w)
    rw [← hel] at hs
    unfold vcut
    rcases hl with ⟨rfl, rfl⟩ | ⟨o, k, rfl, ho⟩ <;> rcases hh with ⟨rfl, rfl⟩ | ⟨o', k', rfl, ho'⟩
    · simp [execOp, hx, Option.map, run_sliceAt_slice w T _ _ _ _ hu, run_slice_all w T ao _ cap hu, hs]
    · simp [execOp, hx, Option.map, run_sliceAt_slice w T _ _ _ _ hu, ho', run_slice_h w T ao vs.length cap hu k' (h : Int) (by omega) (by omega), hs]
    · simp [execOp, hx, Option.map, run_sliceAt_slice w T _ _ _ _ hu, ho, run_slice_l w T ao vs.length cap hu k (l : Int) (by omega) (by omega), hs]
    · simp [execOp, hx, Option.map, run_sliceAt_slice w T _ _ _ _ hu, ho, ho', run_slice_lh w T ao vs.length cap hu k k' (l : Int) (h : Int) (by omega) (by omega) (by omega), hs]⟩
theorem y_cutH {x o : Operand} {h : Nat} {k : IntKind} (hT : SliceT P T e z bytes) (hv : ∀ w, C w → SV w v vs) (h2 : h ≤ vs.length) (hx : ev E x = v) (ho : ev E o = .int k h) : Yields P C E (.slice T x none (some o) none) ty (vcut v 0 h) :=
  y_cut hT hv (Nat.zero_le _) h2 hx (.inl ⟨rfl, rfl⟩) (.inr ⟨o, k, rfl, ho⟩)
theorem y_cutL {x o : Operand} {l : Nat} {k : IntKind} (hT : SliceT P T e z bytes) (hv : ∀ w, C w → SV w v vs) (h2 : l ≤ vs.length) (hx : ev E x = v) (ho : ev E o = .int k l) : Yields P C E (.slice T x (some o) none none) ty (vcut v l vs.length) :=
  y_cut hT hv h2 (Nat.le_refl _) hx (.inr ⟨o, k, rfl, ho⟩) (.inl ⟨rfl, rfl⟩)
theorem y_cutB {x o o' : Operand} {l h : Nat} {k k' : IntKind} (hT : SliceT P T e z bytes) (hv : ∀ w, C w → SV w v vs) (h1 : l ≤ h) (h2 : h ≤ vs.length) (hx : ev E x = v) (ho : ev E o = .int k l) (ho' : ev E o' = .int k' h) : Yields P C E (.slice T x (some o) (some o') none) ty (vcut v l h) :=
  y_cut hT hv h1 h2 hx (.inr ⟨o, k, rfl, ho⟩) (.inr ⟨o', k', rfl, ho'⟩)
end
end B
end Go.Proofs.YtebegkegkdmbjaaDoor
