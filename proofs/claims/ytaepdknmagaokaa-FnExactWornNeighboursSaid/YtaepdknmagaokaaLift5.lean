/-
  Struct arguments with a struct in them; slices of slices from their one cell; structs of numbers.
-/
import Derived.Test.YtaepdknmagaokaaLift3
namespace Go.Proofs.Ytaepdknmagaokaa
namespace B
open Go.RowKit Go.ChangeShapes Go.WideShapes Go.ChangeAt

section
variable {H : Type} {enc : TypeId × Value → H} {P : Program} {W : World}

theorem open_RdSSt {t e q : TypeId} {v : Value} {n : Nat} {y : DataW H × List MemPlace} (ht : P.underlying t = some (.slice e)) (he : P.underlying e = some (.slice q)) (hq : P.underlying q = some (.int .i64))
    (ce : P.cellsOf e = 1) (cq : P.cellsOf q = 1) (h : DataW.trod enc P W 0 (fun _ => true) true n t [v] = some y) : ∃ rs, RdN ints W v rs ∧ ∀ r ∈ rs, ∀ x ∈ r, I64 x := by
  rcases Deep.open_int_rows ht he hq ce cq h with ⟨hcs, hx⟩ | ⟨a, len, cap, A, L, C, Z, hcs, _, hl, hm, hx, hcell⟩
  · simp only [List.cons.injEq, and_true] at hcs
    subst hcs
    exact ⟨[], ⟨[], SV.nil W, rfl, fun i hi => absurd hi (Nat.not_lt_zero i)⟩, by simp⟩
  · simp only [List.cons.injEq, and_true] at hcs
    subst hcs
    have hm' : cap ≤ 9223372036854775807 := hm
    refine ⟨(List.range len).map fun r => (Z r).take (L r), ⟨(List.range len).map fun r => .slice (A r) (L r) (C r), ?_, by simp, fun i hi => ?_⟩, fun r hr x hx => ?_⟩
    · have := SV.of (w := W) (a := a) (cap := cap) (vs := (List.range len).map fun r => Value.slice (A r) (L r) (C r)) (by simpa using hl) hm' (fun i hi => by
        simp only [List.length_map, List.length_range] at hi
        rw [(hcell i (by omega)).1]; simp [hi])
      simpa using this
    · simp only [List.length_map, List.length_range] at hi
      rw [getD_range hi, getD_range hi]
      obtain ⟨-, r1, r2, r3, -, r5, r6⟩ := hcell i (by omega)
      have r2' : C i ≤ 9223372036854775807 := r2
      cases hA : A i with
      | none =>
        have := r5 hA
        have hL : L i = 0 := by omega
        rw [hL, this]; exact SV.nil W
      | some a' =>
        have hlen : (ints ((Z i).take (L i))).length = L i := by rw [ints_len]; simp; omega
        have := SV.of (w := W) (a := a') (cap := C i) (vs := ints ((Z i).take (L i))) (by omega) r2' (fun c hc => by
          rw [hlen] at hc
          rw [((r6 a' hA).2 c (by omega))]
          refine (ints_get ?_).symm
          rw [List.getElem?_take, if_pos hc]
          simp [List.getD, List.getElem?_eq_getElem (show c < (Z i).length by omega)])
        rwa [hlen] at this
    · simp only [List.mem_map, List.mem_range] at hr
      obtain ⟨i, hi, rfl⟩ := hr
      exact I64.of ((hcell i (by omega)).2.2.2.2.1 x (List.mem_of_mem_take hx))

/-- A struct of a struct of two cells, and of one more cell. -/
theorem open_agg21 {r : Reach} {b0 : Nat} {t : TypeId} {f0 f1 g0 g1 : Field} {v : Value} {d : DataW H} {p : List MemPlace} (hs : P.underlying t = some (.struct #[f0, f1])) (hs0 : P.underlying f0.type = some (.struct #[g0, g1]))
    (ho : (f0.offset, f1.offset, g0.offset, g1.offset) = (0, 2, 0, 1)) (hc : (P.cellsOf t, P.cellsOf f0.type, P.cellsOf f1.type, P.cellsOf g0.type, P.cellsOf g1.type) = (3, 2, 1, 1, 1))
    (hv : Value.okWide P W r b0 t v) (h : DataW.Trod enc P W 0 (fun _ => true) true t v d p) :
    ∃ (a b c : Value) (ya yb yc : DataW H × List MemPlace) (n m : Nat), v = .agg #[a, b, c] ∧ DataW.trod enc P W 0 (fun _ => true) true m g0.type [a] = some ya ∧ DataW.trod enc P W 0 (fun _ => true) true m g1.type [b] = some yb ∧ DataW.trod enc P W 0 (fun _ => true) true n f1.type [c] = some yc := by
  simp only [Prod.mk.injEq] at ho hc
  obtain ⟨o1, o2, o3, o4⟩ := ho
  obtain ⟨c0, c1, c2, c3, c4⟩ := hc
  obtain ⟨cs, rfl, hsz⟩ := okWide_struct hs hv
  obtain ⟨a, b, c, rfl⟩ := Joins.array3 (hsz.trans c0)
  obtain ⟨fuel, hf⟩ := h
  obtain ⟨y0, y1, n, _, _, h0, h1⟩ := trod_struct2 hs hf
  simp only [Value.cells, o1, o2, c1, c2, List.drop_zero, List.take_succ_cons, List.take_zero, List.drop_succ_cons] at h0 h1
  obtain ⟨z0, z1, m, _, _, k0, k1⟩ := trod_struct2 hs0 h0
  simp only [o3, o4, c3, c4, List.drop_zero, List.take_succ_cons, List.take_zero, List.drop_succ_cons] at k0 k1
  exact ⟨a, b, c, z0, z1, y1, n, m, rfl, k0, k1, h1⟩

/-- A struct of one cell. -/
theorem open_agg1 {r : Reach} {b0 : Nat} {t : TypeId} {f0 : Field} {v : Value} {d : DataW H} {p : List MemPlace} (hs : P.underlying t = some (.struct #[f0])) (ho : f0.offset = 0) (hc : (P.cellsOf t, P.cellsOf f0.type) = (1, 1))
    (hv : Value.okWide P W r b0 t v) (h : DataW.Trod enc P W 0 (fun _ => true) true t v d p) :
    ∃ (a : Value) (ya : DataW H × List MemPlace) (n : Nat), v = .agg #[a] ∧ DataW.trod enc P W 0 (fun _ => true) true n f0.type [a] = some ya := by
  simp only [Prod.mk.injEq] at hc
  obtain ⟨c0, c1⟩ := hc
  obtain ⟨cs, rfl, hsz⟩ := okWide_struct hs hv
  obtain ⟨a, rfl⟩ : ∃ a, cs = #[a] := by
    obtain ⟨l⟩ := cs
    match l, hsz.trans c0 with
    | [a], _ => exact ⟨a, rfl⟩
  obtain ⟨fuel, hf⟩ := h
  obtain ⟨xs, n, _, _, hl, hlen, hf2⟩ := DataW.trod_struct hs hf
  match xs, hlen with
  | [y0], _ =>
    have h0 := hf2 0 f0 rfl
    simp only [Value.cells, ho, c1, List.drop_zero, List.take_succ_cons, List.take_zero, List.getElem?_cons_zero] at h0
    exact ⟨a, y0, n, rfl, h0⟩

theorem open_i64t {t : TypeId} {v : Value} {n : Nat} {y : DataW H × List MemPlace} (ht : P.underlying t = some (.int .i64)) (h : DataW.trod enc P W 0 (fun _ => true) true n t [v] = some y) : ∃ x : Int, v = .int .i64 x ∧ I64 x := by
  obtain ⟨x, h1, h2, h3⟩ := DataW.trod_int ht h
  simp only [List.cons.injEq, and_true] at h1
  exact ⟨x, h1, I64.of h3⟩

/-- A struct of five numbers. -/
theorem open_agg5 {r : Reach} {b0 : Nat} {t : TypeId} {f0 f1 f2 f3 f4 : Field} {v : Value} {d : DataW H} {p : List MemPlace} (hs : P.underlying t = some (.struct #[f0, f1, f2, f3, f4]))
    (ho : (f0.offset, f1.offset, f2.offset, f3.offset, f4.offset) = (0, 1, 2, 3, 4)) (hc : (P.cellsOf t, P.cellsOf f0.type, P.cellsOf f1.type, P.cellsOf f2.type, P.cellsOf f3.type, P.cellsOf f4.type) = (5, 1, 1, 1, 1, 1))
    (hi : ∀ f ∈ [f0, f1, f2, f3, f4], P.underlying f.type = some (.int .i64))
    (hv : Value.okWide P W r b0 t v) (h : DataW.Trod enc P W 0 (fun _ => true) true t v d p) :
    ∃ a b c e f : Int, v = .agg #[.int .i64 a, .int .i64 b, .int .i64 c, .int .i64 e, .int .i64 f] ∧ (I64 a ∧ I64 b ∧ I64 c ∧ I64 e ∧ I64 f) := by
  simp only [Prod.mk.injEq] at ho hc
  obtain ⟨o0, o1, o2, o3, o4⟩ := ho
  obtain ⟨ct, c0, c1, c2, c3, c4⟩ := hc
  obtain ⟨cs, rfl, hsz⟩ := okWide_struct hs hv
  obtain ⟨v0, v1, v2, v3, v4, rfl⟩ : ∃ v0 v1 v2 v3 v4, cs = #[v0, v1, v2, v3, v4] := by
    obtain ⟨l⟩ := cs
    match l, hsz.trans ct with
    | [a, b, c, e, f], _ => exact ⟨a, b, c, e, f, rfl⟩
  obtain ⟨fuel, hf⟩ := h
  obtain ⟨xs, n, _, _, hl, hlen, hf2⟩ := DataW.trod_struct hs hf
  match xs, hlen with
  | [y0, y1, y2, y3, y4], _ =>
    have h0 := hf2 0 f0 rfl
    have h1 := hf2 1 f1 rfl
    have h2 := hf2 2 f2 rfl
    have h3 := hf2 3 f3 rfl
    have h4 := hf2 4 f4 rfl
    simp only [Value.cells, o0, o1, o2, o3, o4, c0, c1, c2, c3, c4, List.drop_zero, List.take_succ_cons, List.take_zero, List.drop_succ_cons, List.getElem?_cons_zero, List.getElem?_cons_succ] at h0 h1 h2 h3 h4
    obtain ⟨a, rfl, w0⟩ := open_i64t (hi f0 (by simp)) h0
    obtain ⟨b, rfl, w1⟩ := open_i64t (hi f1 (by simp)) h1
    obtain ⟨c, rfl, w2⟩ := open_i64t (hi f2 (by simp)) h2
    obtain ⟨e, rfl, w3⟩ := open_i64t (hi f3 (by simp)) h3
    obtain ⟨f, rfl, w4⟩ := open_i64t (hi f4 (by simp)) h4
    exact ⟨a, b, c, e, f, rfl, w0, w1, w2, w3, w4⟩
end
end B
end Go.Proofs.Ytaepdknmagaokaa
