/-
  Arguments that are slices of slices, or slices of bool.
-/
import Derived.Test.YtebegkegkdmbjaaDoorLift
import Derived.Test.YtebegkegkdmbjaaDoorNest
import Derived.Deep.Matrix
import Derived.Deep.Grids
namespace Go.Proofs.YtebegkegkdmbjaaDoor
namespace B
open Go.RowKit Go.ChangeShapes Go.WideShapes Go.ChangeAt

theorem SV.of {w : World} {a : Addr} {cap : Nat} {vs : List Value} (h1 : vs.length ≤ cap) (h2 : cap ≤ 9223372036854775807) (hc : ∀ i, i < vs.length → w.cell? (a.add i) = vs[i]?) : SV w (.slice (some a) vs.length cap) vs := by
  by_cases h0 : vs.length = 0
  · have : vs = [] := List.eq_nil_of_length_eq_zero h0
    subst this
    exact .inl ⟨_, cap, rfl, rfl, fun h => by (cases h), h2⟩
  · have hx := hc 0 (by omega)
    rw [List.getElem?_eq_getElem (by omega : 0 < vs.length)] at hx
    obtain ⟨b, off, spot⟩ := a
    have hspot : spot = none := by simpa [Addr.add] using World.cell?_spot hx
    subst hspot
    have hblk : ∃ cur e' fz, w.heap[b]? = some (.cells cur e' fz) := by
      unfold World.cell? at hx
      split at hx
      · exact ⟨_, _, _, by assumption⟩
      · cases hx
    obtain ⟨cur, e', fz, hb⟩ := hblk
    refine .inr ⟨b, off, cap, cur, e', fz, rfl, by omega, h1, h2, hb, fun j hj => ?_⟩
    have h3 := hc j hj
    rw [Addr.add_lit, cell_of_row w b (off + j) cur e' fz hb] at h3
    exact h3

section
variable {H : Type} {enc : TypeId × Value → H} {P : Program} {W : World}

theorem getD_range {β : Type} {d : β} {g : Nat → β} {n i : Nat} (h : i < n) : ((List.range n).map g).getD i d = g i := by simp [List.getD, h]

theorem open_RdSS {t e q : TypeId} {v : Value} {d : DataW H} {ps : List MemPlace} (ht : P.underlying t = some (.slice e)) (he : P.underlying e = some (.slice q)) (hq : P.underlying q = some (.int .i64))
    (ce : P.cellsOf e = 1) (cq : P.cellsOf q = 1) (hv : Value.okWide P W .any 0 t v) (h : DataW.Trod enc P W 0 (fun _ => true) true t v d ps) : ∃ rs, RdN ints W v rs ∧ ∀ r ∈ rs, ∀ x ∈ r, I64 x := by
  obtain ⟨a0, len, cap, rfl⟩ := okWide_slice ht hv
  obtain ⟨fuel, hf⟩ := h
  rcases Deep.open_int_rows ht he hq ce cq hf with ⟨hcs, hx⟩ | ⟨a, len', cap', A, L, C, Z, hcs, _, hl, hm, hx, hcell⟩
  · simp [Value.cells] at hcs
    obtain ⟨rfl, rfl, rfl⟩ := hcs
    exact ⟨[], ⟨[], SV.nil W, rfl, fun i hi => absurd hi (Nat.not_lt_zero i)⟩, by simp⟩
  · simp [Value.cells] at hcs
    obtain ⟨rfl, rfl, rfl⟩ := hcs
    have hm' : cap ≤ 9223372036854775807 := hm
    refine ⟨(List.range len).map fun r => (Z r).take (L r), ⟨(List.range len).map fun r => .slice (A r) (L r) (C r), ?_, by simp, fun i hi => ?_⟩, fun r hr x hx => ?_⟩
    · have := SV.of (w := W) (a := a) (cap := cap) (vs := (List.range len).map fun r => Value.slice (A r) (L r) (C r)) (by simpa using hl) hm' (fun i hi => by
        simp only [List.length_map, List.length_range] at hi
        rw [(hcell i (by omega)).1]; simp [hi])
      simpa using this
    · simp only [List.length_map, List.length_range] at hi
      rw [getD_range hi, getD_range hi]
      obtain ⟨-, r1, r2, r3, -, r5, r6⟩ := hcell i (by omega)
      have r2' : C i ≤ 9223372036854775807 := r2
      cases hA : A i with
      | none =>
        have := r5 hA
        have hL : L i = 0 := by omega
        rw [hL, this]; exact SV.nil W
      | some a' =>
        have hlen : (ints ((Z i).take (L i))).length = L i := by rw [ints_len]; simp; omega
        have := SV.of (w := W) (a := a') (cap := C i) (vs := ints ((Z i).take (L i))) (by omega) r2' (fun c hc => by
          rw [hlen] at hc
          rw [((r6 a' hA).2 c (by omega))]
          refine (ints_get ?_).symm
          rw [List.getElem?_take, if_pos hc]
          simp [List.getD, List.getElem?_eq_getElem (show c < (Z i).length by omega)])
        rwa [hlen] at this
    · simp only [List.mem_map, List.mem_range] at hr
      obtain ⟨i, hi, rfl⟩ := hr
      exact I64.of ((hcell i (by omega)).2.2.2.2.1 x (List.mem_of_mem_take hx))

theorem open_SB {t e : TypeId} {v : Value} {d : DataW H} {ps : List MemPlace} (ht : P.underlying t = some (.slice e)) (he : P.underlying e = some .bool) (hc : P.cellsOf e = 1)
    (hv : Value.okWide P W .any 0 t v) (h : DataW.Trod enc P W 0 (fun _ => true) true t v d ps) : ∃ xs, SB W v xs := by
  obtain ⟨a0, len, cap, rfl⟩ := okWide_slice ht hv
  obtain ⟨fuel, hf⟩ := h
  rcases Deep.open_bools ht he hc hf with ⟨hcs, hx⟩ | ⟨a, len', cap', B, hcs, _, hl, hm, hx, hcell⟩
  · simp [Value.cells] at hcs
    obtain ⟨rfl, rfl, rfl⟩ := hcs
    exact ⟨[], SV.nil W⟩
  · simp [Value.cells] at hcs
    obtain ⟨rfl, rfl, rfl⟩ := hcs
    have hm' : cap ≤ 9223372036854775807 := hm
    refine ⟨(List.range len).map B, ?_⟩
    have := SV.of (w := W) (a := a) (cap := cap) (vs := bools ((List.range len).map B)) (by simpa [bools] using hl) hm' (fun i hi => by
      simp only [bools_len, List.length_map, List.length_range] at hi
      rw [hcell i (by omega)]; simp [bools, hi])
    rwa [bools_len, List.length_map, List.length_range] at this

theorem open_RdBB {t e q : TypeId} {v : Value} {d : DataW H} {ps : List MemPlace} (ht : P.underlying t = some (.slice e)) (he : P.underlying e = some (.slice q)) (hq : P.underlying q = some .bool)
    (ce : P.cellsOf e = 1) (cq : P.cellsOf q = 1) (hv : Value.okWide P W .any 0 t v) (h : DataW.Trod enc P W 0 (fun _ => true) true t v d ps) : ∃ rs, RdN bools W v rs := by
  obtain ⟨a0, len, cap, rfl⟩ := okWide_slice ht hv
  obtain ⟨fuel, hf⟩ := h
  rcases Deep.open_bool_rows ht he hq ce cq hf with ⟨hcs, hx⟩ | ⟨a, len', cap', A, L, C, B, hcs, _, hl, hm, hx, hcell⟩
  · simp [Value.cells] at hcs
    obtain ⟨rfl, rfl, rfl⟩ := hcs
    exact ⟨[], ⟨[], SV.nil W, rfl, fun i hi => absurd hi (Nat.not_lt_zero i)⟩⟩
  · simp [Value.cells] at hcs
    obtain ⟨rfl, rfl, rfl⟩ := hcs
    have hm' : cap ≤ 9223372036854775807 := hm
    refine ⟨(List.range len).map fun r => (List.range (L r)).map (B r), ⟨(List.range len).map fun r => .slice (A r) (L r) (C r), ?_, by simp, fun i hi => ?_⟩⟩
    · have := SV.of (w := W) (a := a) (cap := cap) (vs := (List.range len).map fun r => Value.slice (A r) (L r) (C r)) (by simpa using hl) hm' (fun i hi => by
        simp only [List.length_map, List.length_range] at hi
        rw [(hcell i (by omega)).1]; simp [hi])
      simpa using this
    · simp only [List.length_map, List.length_range] at hi
      rw [getD_range hi, getD_range hi]
      obtain ⟨-, r1, r2, r5, r6⟩ := hcell i (by omega)
      have r2' : C i ≤ 9223372036854775807 := r2
      cases hA : A i with
      | none =>
        have := r5 hA
        have hL : L i = 0 := by omega
        rw [hL, this]; exact SV.nil W
      | some a' =>
        have hlen : (bools ((List.range (L i)).map (B i))).length = L i := by rw [bools_len]; simp
        have := SV.of (w := W) (a := a') (cap := C i) (vs := bools ((List.range (L i)).map (B i))) (by omega) r2' (fun c hc => by
          rw [hlen] at hc
          rw [((r6 a' hA).2 c (by omega))]
          simp [bools, hc])
        rwa [hlen] at this
end
end B
end Go.Proofs.YtebegkegkdmbjaaDoor
