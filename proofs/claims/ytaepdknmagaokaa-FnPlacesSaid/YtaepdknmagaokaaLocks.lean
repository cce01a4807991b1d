/-
  Slices whose elements are structs of one cell.
-/
import Derived.Test.YtaepdknmagaokaaStruct
import Derived.Test.YtaepdknmagaokaaNest
import Derived.Deep.MidRow
namespace Go.Proofs.Ytaepdknmagaokaa
namespace B
open Go.RowKit

/-- The row of the program's table for a slice type T whose elements e are structs of one cell. -/
structure LockT (P : Program) (T e : TypeId) (z : Value) : Prop where
  und : P.underlying T = some (.slice e)
  inf : ∃ i, P.info? e = some i ∧ i.zero = some (.agg #[z]) ∧ i.size = 1
  zone : z.cells = #[z]

section
variable {P : Program} {ops : Array Oper} {Q : Exit → Act → World → Prop} {rest : List Oper} {n : Nat} {E : List (Nat × Value)} {w : World} {ty : TypeId} {pos : String} {af : Array Edge} {C : World → Prop} {T e : TypeId} {z v : Value} {vs : List Value}

theorem LockT.size (hT : LockT P T e z) (w : World) : (sizeOf e).run P w = .ok 1 w := by
  obtain ⟨i, hi, _, hs⟩ := hT.inf
  simp [sizeOf, typeInfo, hi, hs]

theorem y_lenL {x : Operand} {m : Nat} (hT : LockT P T e z) {w0 : World} (hv : SV w0 v vs) (hm : vs.length = m) (hx : ev E x = v) : Yields P C E (.call ⟨.builtin .len, #[x], #[T]⟩) ty (.int .i64 m) :=
  ⟨fun w _ d pos af g => by
    obtain ⟨ao, cap, rfl, _⟩ := hv.shape
    subst hm
    simp [execOp, resolve, invoke, builtin, Builtin.len_, hx, run_underlying hT.und, goInt]⟩

theorem y_ixL {x ix : Operand} {k : Nat} {kk : IntKind} (hT : LockT P T e z) (hv : ∀ w, C w → SV w v vs) (hk : k < vs.length) (hx : ev E x = v) (hi : ev E ix = .int kk k) :
    Yields P C E (.indexAddr T x ix) ty (vptr v k) :=
  ⟨fun w hw d pos af g => by
    rcases hv w hw with ⟨_, _, _, rfl, _⟩ | ⟨b, off, cap, cur, e', fz, rfl, h0, h1, h2, h3, h4⟩
    · simp at hk
    · have h5 : (0 : Int) ≤ (k : Int) ∧ (k : Int) < (vs.length : Int) := ⟨by omega, by omega⟩
      simp only [execOp, Instr.indexAt, hx, hi, asIntOf, Sem.run_bind, Sem.run_pure, Result.andThen_ok, run_underlying hT.und, if_pos h5, hT.size, Int.toNat_natCast, Nat.mul_one, vptr_some, Addr.add_lit]⟩

theorem y_ldL {p : Operand} {T : TypeId} {k : Nat} {x : Value} (hA : AG P T 1) (hv : ∀ w, C w → SV w v vs) (hk : vs[k]? = some x) (hp : ev E p = vptr v k) : Yields P C E (.load T p) ty (.agg #[x]) :=
  ⟨fun w hw d pos af g => by
    obtain ⟨⟨fs, hu⟩, hs⟩ := hA
    have hlt : k < vs.length := (List.getElem?_eq_some_iff.1 hk).1
    have hsv := hv w hw
    obtain ⟨ad, e1, e2⟩ := hsv.cell hk
    rcases hsv with ⟨_, _, _, rfl, _⟩ | ⟨b, off, cap, cur, e', fz, rfl, h0, h1, h2, h3, h4⟩
    · simp at hlt
    · rw [vptr_some] at e1 hp
      simp only [Value.pointer.injEq, Option.some.injEq] at e1
      subst e1
      have hr : w.rangeAt b (off + k) [x] := fun j v hj => by
        obtain rfl : j = 0 := by have := (List.getElem?_eq_some_iff.1 hj).1; simpa using this
        simp only [List.getElem?_cons_zero, Option.some.injEq] at hj
        subst hj
        simpa using e2
      have h5 := run_loadAt_mid (P := P) w b (off + k) T [x] _ hr hu rfl (by simpa using hs)
      simp [execOp, hp, h5]⟩

/-- A slice of one struct. -/
theorem RL.litL {d : Nat} {x : Value} {xo : Operand} (hd : Nat.blt d n = true) (hT : LockT P T e z) (h1 : x.oneCell' = true) (hx : ev E xo = .agg #[x])
    (k : ∀ v w', SV w' v [x] → Ext w w' → RL P ops Q rest n ((d, v) :: E) w') : RL P ops Q (⟨some d, .buildSlice T 1 #[(0, xo)], ty, pos, af, none⟩ :: rest) n E w := by
  obtain ⟨i, hi, hz, hsz⟩ := hT.inf
  refine RL.val hd (v := .slice (some ⟨w.heap.size, 0, none⟩) 1 1) (w' := w.alloc (.cells [x].toArray e)) ?_ (k _ _ (OV.made (e := e) w [x] (by simp)).sv (Ext.alloc _ _))
  have hc : (Value.agg #[x]).cells = #[x] := by simp [Value.cells, cells_one h1]
  have hzc : (Value.agg #[z]).cells = #[z] := by simp [Value.cells, hT.zone]
  have hmk := made_one z 1
  have hlim : ¬ (16777216 < 1) := by omega
  simp only [execOp, Instr.buildSlice, Sem.run_bind, run_underlying hT.und, hT.size, Result.andThen_ok, Nat.mul_one, gt_iff_lt, Nat.reducePow, Sem.run_ite, if_neg hlim, zeroValue, typeInfo, program, Sem.run_pure]
  simp [Sem.run, hi, hz, newRow, newObj, hx, Instr.fill, hc, hzc]
  have hm1 : Array.map (fun x => [z][x % 1]?.getD default) (Array.range 1) = #[z] := by
    apply Array.ext
    · simp
    · intro i h1 h2
      have : i = 0 := by simp at h2; exact h2
      subst this
      simp
  rw [hm1]; rfl
end

end B
end Go.Proofs.Ytaepdknmagaokaa
