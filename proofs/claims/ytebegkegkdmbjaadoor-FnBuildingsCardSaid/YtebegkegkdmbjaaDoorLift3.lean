/-
  Fields of a struct argument: slices, opened from their one cell.
-/
import Derived.Test.YtebegkegkdmbjaaDoorLift2
import Derived.Lib.SmallJoins
namespace Go.Proofs.YtebegkegkdmbjaaDoor
namespace B
open Go.RowKit Go.ChangeShapes Go.WideShapes Go.ChangeAt

section
variable {H : Type} {enc : TypeId × Value → H} {P : Program} {W : World}

theorem open_SIt {t e : TypeId} {v : Value} {n : Nat} {y : DataW H × List MemPlace} (ht : P.underlying t = some (.slice e)) (he : P.underlying e = some (.int .i64)) (hc : P.cellsOf e = 1)
    (h : DataW.trod enc P W 0 (fun _ => true) true n t [v] = some y) : ∃ xs, SI W v xs ∧ ∀ x ∈ xs, I64 x := by
  rcases open_ints ht he hc h with ⟨hcs, hx⟩ | ⟨a, len, cap, zs, hcs, _, hl, hm, hz, hx, hcell, hwz⟩
  · simp only [List.cons.injEq, and_true] at hcs
    subst hcs
    exact ⟨[], SV.nil W, by simp⟩
  · simp only [List.cons.injEq, and_true] at hcs
    subst hcs
    simp only [if_true] at hz
    have hm' : cap ≤ 9223372036854775807 := hm
    refine ⟨zs.take len, ?_, fun x hx => I64.of (hwz x (List.mem_of_mem_take hx))⟩
    have hlen : (ints (zs.take len)).length = len := by rw [ints_len]; simp; omega
    have := SV.of (w := W) (a := a) (cap := cap) (vs := ints (zs.take len)) (by omega) hm' (fun c hc => by
      rw [hlen] at hc
      rw [hcell c (by omega)]
      refine (ints_get ?_).symm
      rw [List.getElem?_take, if_pos hc]
      simp [List.getD, List.getElem?_eq_getElem (show c < zs.length by omega)])
    rwa [hlen] at this

theorem open_SBt {t e : TypeId} {v : Value} {n : Nat} {y : DataW H × List MemPlace} (ht : P.underlying t = some (.slice e)) (he : P.underlying e = some .bool) (hc : P.cellsOf e = 1)
    (h : DataW.trod enc P W 0 (fun _ => true) true n t [v] = some y) : ∃ xs, SB W v xs := by
  rcases Deep.open_bools ht he hc h with ⟨hcs, hx⟩ | ⟨a, len, cap, B, hcs, _, hl, hm, hx, hcell⟩
  · simp only [List.cons.injEq, and_true] at hcs
    subst hcs
    exact ⟨[], SV.nil W⟩
  · simp only [List.cons.injEq, and_true] at hcs
    subst hcs
    have hm' : cap ≤ 9223372036854775807 := hm
    refine ⟨(List.range len).map B, ?_⟩
    have := SV.of (w := W) (a := a) (cap := cap) (vs := bools ((List.range len).map B)) (by simpa [bools] using hl) hm' (fun i hi => by
      simp only [bools_len, List.length_map, List.length_range] at hi
      rw [hcell i (by omega)]; simp [bools, hi])
    rwa [bools_len, List.length_map, List.length_range] at this
end
end B
end Go.Proofs.YtebegkegkdmbjaaDoor
