/-
  A function value is not nil; a quiet call of a function value.
-/
import Derived.Test.YtaepdknmagaokaaOps
namespace Go.Proofs.Ytaepdknmagaokaa
namespace B
open Go.RowKit
theorem y_fne {P : Program} {C : World → Prop} {E : List (Nat × Value)} {ty T U : TypeId} {x : Operand} {f : Go.Fn} {a c : Array Value} (h : ∀ f a c w, (binOp BinOp.neq T (Value.func f a c) Value.nilFunc).run P w = .ok (.bool true) w) (hx : ev E x = .func f a c) : Yields P C E (.binOp .neq T x (.const .nilFunc) U) ty (.bool true) :=
  ⟨fun w _ d pos af g => by
    have hg : (eqGuard .neq T x (.const .nilFunc) (.func f a c) .nilFunc).run P w = .ok () w := rfl
    have h3 : ev E (.const .nilFunc) = .nilFunc := rfl
    simp only [execOp, hx, h3, Sem.run_bind, hg, Result.andThen_ok, h f a c w]
    rfl⟩
theorem y_snn {P : Program} {C : World → Prop} {E : List (Nat × Value)} {ty T U : TypeId} {x : Operand} (h : ∀ w, (binOp BinOp.neq T (Value.slice none 0 0) (Value.slice none 0 0)).run P w = .ok (.bool false) w) (hx : ev E x = .slice none 0 0) : Yields P C E (.binOp .neq T x (.const (.slice none 0 0)) U) ty (.bool false) :=
  ⟨fun w _ d pos af g => by
    have hg : (eqGuard .neq T x (.const (.slice none 0 0)) (.slice none 0 0) (.slice none 0 0)).run P w = .ok () w := rfl
    have h3 : ev E (.const (.slice none 0 0)) = .slice none 0 0 := rfl
    simp only [execOp, hx, h3, Sem.run_bind, hg, Result.andThen_ok, h w]
    rfl⟩
theorem QL.callw {P : Program} {ops : Array Oper} {C : World → Prop} {Q : Exit → Act → World → Prop} {rest : List Oper} {n : Nat} {E : List (Nat × Value)} {d f : Nat} {cv : Operand} {cl : List Value} {args : Array Operand} {tys : Array TypeId} {ty : TypeId} {pos : String} {af : Array Edge} {v : Value} (hd : Nat.blt d n = true)
    (hv : ev E cv = .func (.func f) #[] cl.toArray)
    (hc : ∀ w, C w → Does P f (args.toList.map (ev E) ++ cl).toArray w (fun u w' => u = v ∧ C w')) (k : QL P ops C Q rest n ((d, v) :: E)) :
    QL P ops C Q (⟨some d, .call ⟨.value cv, args, tys⟩, ty, pos, af, none⟩ :: rest) n E := by
  refine QL.callv (first := #[]) (cap := cl.toArray) hd hv (fun w hw => ?_) k
  have e : #[] ++ evs E args ++ cl.toArray = (args.toList.map (ev E) ++ cl).toArray := by unfold evs; simp
  rw [e]; exact hc w hw
end B
end Go.Proofs.Ytaepdknmagaokaa
