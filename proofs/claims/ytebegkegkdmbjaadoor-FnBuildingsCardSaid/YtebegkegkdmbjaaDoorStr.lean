/-
  Heads and tails of strings; 64-bit numbers without a sign.
-/
import Derived.Test.YtebegkegkdmbjaaDoorOps
import Derived.Laws.Slices
namespace Go.Proofs.YtebegkegkdmbjaaDoor
namespace B
open Go.RowKit

section
variable {P : Program} {C : World → Prop} {E : List (Nat × Value)} {ty T : TypeId} {l : List UInt8}
theorem y_scutH {x o : Operand} {h : Nat} {k : IntKind} (hT : P.underlying T = some .string) (h2 : h ≤ l.length) (hx : ev E x = .string ⟨l.toArray⟩) (ho : ev E o = .int k h) : Yields P C E (.slice T x none (some o) none) ty (.string ⟨(l.take h).toArray⟩) :=
  ⟨fun w _ d pos af g => by
    have e1 : (ByteArray.mk l.toArray).size = l.length := by simp [ByteArray.size]
    have e2 : (ByteArray.mk l.toArray).extract 0 h = ByteArray.mk (l.take h).toArray := by apply ByteArray.ext; simp
    simp [execOp, hx, ho, Option.map, run_sliceAt_string w T _ _ _ _ hT, run_slice_string_h w T ⟨l.toArray⟩ hT k (h : Int) (by omega) (by rw [e1]; omega), e2]⟩
theorem y_scutL {x o : Operand} {h : Nat} {k : IntKind} (hT : P.underlying T = some .string) (h2 : h ≤ l.length) (hx : ev E x = .string ⟨l.toArray⟩) (ho : ev E o = .int k h) : Yields P C E (.slice T x (some o) none none) ty (.string ⟨(l.drop h).toArray⟩) :=
  ⟨fun w _ d pos af g => by
    have e1 : (ByteArray.mk l.toArray).size = l.length := by simp [ByteArray.size]
    have e2 : (ByteArray.mk l.toArray).extract h (ByteArray.mk l.toArray).size = ByteArray.mk (l.drop h).toArray := by
      rw [e1]; apply ByteArray.ext; simp [List.take_of_length_le]
    simp [execOp, hx, ho, Option.map, run_sliceAt_string w T _ _ _ _ hT, run_slice_string_l w T ⟨l.toArray⟩ hT k (h : Int) (by omega) (by rw [e1]; omega), e2]⟩
end
theorem u64_range (x : Int) : 0 ≤ IntKind.u64.wrap x ∧ IntKind.u64.wrap x < 18446744073709551616 := by
  simp only [IntKind.wrap, IntKind.signed, IntKind.bits]
  simp
  omega
end B
end Go.Proofs.YtebegkegkdmbjaaDoor
