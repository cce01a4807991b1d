/-
  A value of an interface type against nil; a part of a text.
-/
import Derived.Test.YtebegkegkdmbjaaDoorStr
import Derived.Test.YtebegkegkdmbjaaDoorMem
namespace Go.Proofs.YtebegkegkdmbjaaDoor
namespace B
open Go.RowKit
theorem y_inil {P : Program} {C : World → Prop} {E : List (Nat × Value)} {ty T U : TypeId} {x : Operand} {v : Value} {b : Bool} (h : ∀ w, (binOp BinOp.eql T v Value.nilIface).run P w = .ok (.bool b) w) (hg : ∀ w, (eqGuard .eql T x (.const .nilIface) v .nilIface).run P w = .ok () w) (hx : ev E x = v) : Yields P C E (.binOp .eql T x (.const .nilIface) U) ty (.bool b) :=
  ⟨fun w _ d pos af g => by
    have h3 : ev E (.const .nilIface) = .nilIface := rfl
    simp only [execOp, hx, h3, Sem.run_bind, hg w, Result.andThen_ok, h w]
    rfl⟩
theorem y_scutB {P : Program} {C : World → Prop} {E : List (Nat × Value)} {ty T : TypeId} {l : List UInt8} {x o o' : Operand} {a h : Nat} {k k' : IntKind} (hT : P.underlying T = some .string) (h1 : a ≤ h) (h2 : h ≤ l.length) (hx : ev E x = .string ⟨l.toArray⟩) (ho : ev E o = .int k a) (ho' : ev E o' = .int k' h) : Yields P C E (.slice T x (some o) (some o') none) ty (.string ⟨((l.take h).drop a).toArray⟩) :=
  ⟨fun w _ d pos af g => by
    have e1 : (ByteArray.mk l.toArray).size = l.length := by simp [ByteArray.size]
    have e2 : (ByteArray.mk l.toArray).extract a h = ByteArray.mk ((l.take h).drop a).toArray := by apply ByteArray.ext; simp [List.drop_take]
    simp [execOp, hx, ho, ho', Option.map, run_sliceAt_string w T _ _ _ _ hT, run_slice_string w T ⟨l.toArray⟩ k k' (a : Int) (h : Int) hT (by omega) (by omega) (by rw [e1]; omega), e2]⟩
theorem var_ext {P : Program} {w w' : World} {n : String} {cs : Array Value} (h : w.var? P n = some cs) (he : Ext w w') : w'.var? P n = some cs := by
  unfold World.var? at h ⊢
  cases hg : P.globalNamed n with
  | none => rw [hg] at h; simp at h
  | some g =>
    rw [hg] at h
    simp only [Option.bind_some] at h ⊢
    cases hb : w.heap[g]? with
    | none => rw [hb] at h; simp at h
    | some o => rw [he.block hb]; rw [hb] at h; exact h
theorem cell_ext {w w' : World} {g k : Nat} {v : Value} (h : w.cell? ⟨g, k, none⟩ = some v) (he : Ext w w') : w'.cell? ⟨g, k, none⟩ = some v := by
  unfold World.cell? at h ⊢
  cases hb : w.heap[g]? with
  | none => rw [hb] at h; simp at h
  | some o => rw [he.block hb]; rw [hb] at h; exact h
end B
end Go.Proofs.YtebegkegkdmbjaaDoor
