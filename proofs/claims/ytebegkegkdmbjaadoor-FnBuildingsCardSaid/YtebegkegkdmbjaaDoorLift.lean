/-
  From a law's walk to its row: the arguments are opened, and read behind the call as before it.
-/
import Derived.Test.YtebegkegkdmbjaaDoorLists
import Derived.ProofKit
import Derived.OpenShut
namespace Go.Proofs.YtebegkegkdmbjaaDoor
namespace B
open Go.RowKit Go.ChangeShapes Go.WideShapes Go.ChangeAt

section
variable {H : Type} {enc : TypeId × Value → H} {P : Program} {W W' : World}

theorem trodAll_ext (hl : laidOutB P = true) : ∀ {ts : List TypeId} {vs : List Value} {ds : List (DataW H)} {ps : List MemPlace}, (ts.all fun t => P.readableRec t && decide (t < P.types.size)) = true →
    DataW.TrodAll enc P W 0 (fun _ => true) true ts vs ds ps → Ext W W' → (∀ x ∈ ps, x.block < W.heap.size) → DataW.TrodAll enc P W' 0 (fun b => decide (b < W.heap.size)) true ts vs ds ps
  | [], vs, ds, ps, _, h, _, _ => by
    obtain ⟨rfl, rfl, rfl⟩ := trodAll_nil h
    exact trodAll_mk0
  | t :: ts, vs, ds, ps, ht, h, he, hlt => by
    obtain ⟨v, vs', d, ds', p, q, rfl, rfl, rfl, hd, hrest⟩ := trodAll_cons h
    simp only [List.all_cons, Bool.and_eq_true, decide_eq_true_eq] at ht
    exact trodAll_cons_mk (Below.trod hl ht.1.1 ht.1.2 hd he (fun x hx => hlt x (List.mem_append_left _ hx)))
      (trodAll_ext hl ht.2 hrest he (fun x hx => hlt x (List.mem_append_right _ hx)))

theorem bytes_list (b : ByteArray) : ∃ l : List UInt8, b = ⟨l.toArray⟩ := ⟨b.data.toList, by cases b; simp⟩

/-- The numbers of a kind. -/
def I64 (n : Int) : Prop := -9223372036854775808 ≤ n ∧ n ≤ 9223372036854775807
theorem I64.of {n : Int} (h : (Lit.int .i64 n).wf = true) : I64 n := by
  have h1 : IntKind.i64.min = -9223372036854775808 := rfl
  have h2 : IntKind.i64.max = 9223372036854775807 := rfl
  simp only [Lit.wf, Bool.and_eq_true, decide_eq_true_eq] at h
  unfold I64; omega

/-- An argument that is a slice of int64. -/
theorem open_SI {t e : TypeId} {v : Value} {d : DataW H} {ps : List MemPlace} (ht : P.underlying t = some (.slice e)) (he : P.underlying e = some (.int .i64)) (hc : P.cellsOf e = 1)
    (hv : Value.okWide P W .any 0 t v) (h : DataW.Trod enc P W 0 (fun _ => true) true t v d ps) : ∃ xs, SI W v xs ∧ ∀ x ∈ xs, I64 x := by
  obtain ⟨a0, len, cap, rfl⟩ := okWide_slice ht hv
  obtain ⟨fuel, hf⟩ := h
  rcases open_ints ht he hc hf with ⟨hcs, hx⟩ | ⟨a, len', cap', zs, hcs, _, hl, hm, hz, hx, hcell, hwz⟩
  · simp [Value.cells] at hcs
    obtain ⟨rfl, rfl, rfl⟩ := hcs
    exact ⟨[], SV.nil W, by simp⟩
  · simp [Value.cells] at hcs
    obtain ⟨rfl, rfl, rfl⟩ := hcs
    simp only [if_true] at hz
    have hm' : cap ≤ 9223372036854775807 := hm
    refine ⟨zs.take len, ?_, fun x hx => I64.of (hwz x (List.mem_of_mem_take hx))⟩
    by_cases h0 : len = 0
    · subst h0
      exact .inl ⟨_, cap, rfl, by simp [ints], fun h => by (cases h), hm'⟩
    · have h1 := hcell 0 (by omega)
      obtain ⟨b, off, spot⟩ := a
      have hspot : spot = none := by simpa [Addr.add] using World.cell?_spot h1
      subst hspot
      have hcells : ∀ i, i < zs.length → W.cell? ⟨b, off + i, none⟩ = some (.int .i64 (zs.getD i 0)) := fun i hi => by
        have := hcell i hi
        rwa [Addr.add_lit] at this
      have hblk : ∃ cur e' fz, W.heap[b]? = some (.cells cur e' fz) := by
        have h2 := hcells 0 (by omega)
        unfold World.cell? at h2
        split at h2
        · exact ⟨_, _, _, by assumption⟩
        · cases h2
      obtain ⟨cur, e', fz, hb⟩ := hblk
      have hlen : (ints (zs.take len)).length = len := by simp [ints]; omega
      refine .inr ⟨b, off, cap, cur, e', fz, by rw [hlen], by omega, by omega, hm', hb, fun j hj => ?_⟩
      have hj' : j < len := by omega
      have h3 := hcells j (by omega)
      rw [cell_of_row W b (off + j) cur e' fz hb] at h3
      rw [h3, ints_get (x := zs.getD j 0)]
      rw [List.getElem?_take, if_pos hj']
      simp [List.getD, List.getElem?_eq_getElem (show j < zs.length by omega)]
end
end B
end Go.Proofs.YtebegkegkdmbjaaDoor
