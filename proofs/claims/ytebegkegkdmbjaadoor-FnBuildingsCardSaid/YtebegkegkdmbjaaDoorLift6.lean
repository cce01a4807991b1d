/-
  Arguments that are slices of bytes.
-/
import Derived.Test.YtebegkegkdmbjaaDoorLift2
namespace Go.Proofs.YtebegkegkdmbjaaDoor
namespace B
open Go.RowKit Go.ChangeShapes Go.WideShapes Go.ChangeAt

section
variable {H : Type} {enc : TypeId × Value → H} {P : Program} {W : World}
theorem u8_of {n : Int} (h : (Lit.int .u8 n).wf = true) : ((UInt8.ofNat n.toNat).toNat : Int) = n := by
  have h1 : IntKind.u8.min = 0 := rfl
  have h2 : IntKind.u8.max = 255 := rfl
  simp only [Lit.wf, Bool.and_eq_true, decide_eq_true_eq] at h
  have h3 : n.toNat < 256 := by omega
  rw [UInt8.toNat_ofNat_of_lt' (by simpa using h3)]
  omega
theorem open_SU8 {t e : TypeId} {v : Value} {d : DataW H} {ps : List MemPlace} (ht : P.underlying t = some (.slice e)) (he : P.underlying e = some (.int .u8)) (hc : P.cellsOf e = 1)
    (hv : Value.okWide P W .any 0 t v) (h : DataW.Trod enc P W 0 (fun _ => true) true t v d ps) : ∃ l : List UInt8, SV W v (byts l) := by
  obtain ⟨a0, len, cap, rfl⟩ := okWide_slice ht hv
  obtain ⟨fuel, hf⟩ := h
  rcases open_ints ht he hc hf with ⟨hcs, hx⟩ | ⟨a, len', cap', zs, hcs, _, hl, hm, hz, hx, hcell, hwz⟩
  · simp [Value.cells] at hcs
    obtain ⟨rfl, rfl, rfl⟩ := hcs
    exact ⟨[], SV.nil W⟩
  · simp [Value.cells] at hcs
    obtain ⟨rfl, rfl, rfl⟩ := hcs
    simp only [if_true] at hz
    have hm' : cap ≤ 9223372036854775807 := hm
    have hlen : (byts ((zs.take len).map fun n => UInt8.ofNat n.toNat)).length = len := by rw [bytes_len]; simp; omega
    refine ⟨(zs.take len).map fun n => UInt8.ofNat n.toNat, ?_⟩
    have := SV.of (w := W) (a := a) (cap := cap) (vs := byts ((zs.take len).map fun n => UInt8.ofNat n.toNat)) (by omega) hm' (fun c hc => by
      rw [hlen] at hc
      have hcz : c < zs.length := by omega
      rw [hcell c hcz, bytes_get (x := UInt8.ofNat (zs[c]).toNat) (by simp [hc, hcz])]
      rw [u8_of (hwz _ (List.getElem_mem hcz))]
      simp [List.getD, hcz])
    rwa [hlen] at this
end
end B
end Go.Proofs.YtebegkegkdmbjaaDoor
