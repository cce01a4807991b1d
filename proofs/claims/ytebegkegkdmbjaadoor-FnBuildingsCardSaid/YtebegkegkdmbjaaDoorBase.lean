/-
  A small calculus over the model's walk: the frame of a call is written as an association list (newest entry first), each operation has one lemma.
  Nothing here speaks of a program: conditions are the hypotheses of each lemma.
-/
import Derived.WalkKit
import Derived.ProofKit
import Derived.Deep.Quiet
import Derived.StillTail
namespace Go.Proofs.YtebegkegkdmbjaaDoor
namespace B
open Go.RowKit

abbrev Env := List (Nat × Value)

def lk : List (Nat × Value) → Nat → Value
  | [], _ => undef
  | (d, v) :: E, t => bif Nat.beq d t then v else lk E t

def kl (n : Nat) : List (Nat × Value) → Bool
  | [] => true
  | (d, _) :: E => Nat.blt d n && kl n E

def den (n : Nat) (E : List (Nat × Value)) : Act := ⟨Array.ofFn (n := n) (fun i => lk E i.val), []⟩

def ev (E : List (Nat × Value)) : Operand → Value
  | .tmp t => lk E t
  | .const v => v
  | .global g => .pointer (some ⟨g, 0, none⟩)
  | .func f => .func (.func f) #[] #[]

theorem lk_ge {n : Nat} : ∀ {E : List (Nat × Value)} {t : Nat}, kl n E = true → n ≤ t → lk E t = undef
  | [], _, _, _ => rfl
  | (d, v) :: E, t, h, ht => by
    simp only [kl, Bool.and_eq_true] at h
    have hd : d < n := Nat.le_of_ble_eq_true h.1
    have hne : Nat.beq d t = false := by
      cases hb : Nat.beq d t with
      | false => rfl
      | true => have := Nat.eq_of_beq_eq_true hb; omega
    simp only [lk, hne, cond_false]
    exact lk_ge h.2 ht

theorem den_tmp {n : Nat} {E : List (Nat × Value)} (h : kl n E = true) (t : Nat) : (den n E).tmps.getD t undef = lk E t := by
  unfold den
  by_cases ht : t < n
  · simp [Array.getD, ht]
  · have := lk_ge h (Nat.le_of_not_lt ht)
    simp [Array.getD, ht, this]

theorem den_eval {n : Nat} {E : List (Nat × Value)} (h : kl n E = true) : (den n E).eval = ev E := by
  funext x
  cases x with
  | tmp t => exact den_tmp h t
  | const v => rfl
  | global g => rfl
  | func f => rfl

theorem den_get {n : Nat} {E : List (Nat × Value)} {t : Nat} (ht : t < n) : (den n E).tmps[t]? = some (lk E t) := by
  simp [den, ht]

theorem den_put {n d : Nat} {E : List (Nat × Value)} (v : Value) (_hd : d < n) : (den n E).put (some d) v = den n ((d, v) :: E) := by
  unfold den Act.put
  simp only [Act.mk.injEq, and_true]
  apply Array.ext
  · simp
  · intro i h1 h2
    simp only [Array.size_setIfInBounds, Array.size_ofFn] at h1
    rw [Array.getElem_setIfInBounds]
    · simp only [Array.getElem_ofFn, lk]
      by_cases hi : d = i
      · subst hi; simp
      · have : Nat.beq d i = false := by
          cases hb : Nat.beq d i with
          | false => rfl
          | true => exact absurd (Nat.eq_of_beq_eq_true hb) hi
        rw [if_neg hi, Array.getElem_ofFn, this, cond_false]
    · simpa using h1

theorem den_put_none {n : Nat} {E : List (Nat × Value)} (v : Value) : (den n E).put none v = den n E := rfl

theorem blt_lt {d n : Nat} (h : Nat.blt d n = true) : d < n := Nat.le_of_ble_eq_true h

theorem kl_cons {n d : Nat} {v : Value} {E : List (Nat × Value)} (hd : Nat.blt d n = true) (h : kl n E = true) : kl n ((d, v) :: E) = true := by
  simp [kl, hd, h]

theorem bT {p : Prop} [Decidable p] (h : p) : Value.bool true = .bool (decide p) := congrArg Value.bool (decide_eq_true h).symm
theorem bF {p : Prop} [Decidable p] (h : ¬ p) : Value.bool false = .bool (decide p) := congrArg Value.bool (decide_eq_false h).symm
theorem bD {p q : Prop} [Decidable p] [Decidable q] (h : p ↔ q) : Value.bool (decide p) = .bool (decide q) := congrArg Value.bool (decide_eq_decide.2 h)
theorem bN {p q : Prop} [Decidable p] [Decidable q] (h : ¬ p ↔ q) : Value.bool (!decide p) = .bool (decide q) := congrArg Value.bool (by by_cases hp : p <;> simp [hp] <;> simp [hp] at h <;> exact h)

theorem deNF {α : Type} {a b : α} [Decidable (a ≠ b)] (h : decide (a ≠ b) = false) : a = b := Classical.byContradiction fun h' => of_decide_eq_false h h'
theorem deNT {p : Prop} [Decidable p] (h : (!decide p) = true) : ¬ p := by simpa using h
theorem deNN {p : Prop} [Decidable p] (h : (!decide p) = false) : p := by simpa using h
theorem bnT {b : Bool} (h : (!b) = true) : b = false := by simpa using h
theorem bnF {b : Bool} (h : (!b) = false) : b = true := by simpa using h

theorem tupI {v : Value} {k : IntKind} {c c' : Int} (h : c = c') : Value.tuple #[v, .int k c] = Value.tuple #[v, .int k c'] := by rw [h]

/-! ### The three judgements -/

/-- The end of a piece of code. -/
structure Fin (Q : Exit → Act → World → Prop) (e : Exit) (n : Nat) (E : List (Nat × Value)) (w : World) : Prop where
  h : kl n E = true → Q e (den n E) w

/-- The rest of a region, in the order of the text. -/
structure RL (P : Program) (ops : Array Oper) (Q : Exit → Act → World → Prop) (rest : List Oper) (n : Nat) (E : List (Nat × Value)) (w : World) : Prop where
  h : kl n E = true → wpList P ops Q rest (den n E) w

/-- A piece of code. -/
structure CW (P : Program) (Q : Exit → Act → World → Prop) (c : Code) (n : Nat) (E : List (Nat × Value)) (w : World) : Prop where
  h : kl n E = true → c.wp P Q (den n E) w

/-- The rest of a region whose order is open, all operations quiet in the class C. -/
structure QL (P : Program) (ops : Array Oper) (C : World → Prop) (Q : Exit → Act → World → Prop) (rest : List Oper) (n : Nat) (E : List (Nat × Value)) : Prop where
  h : kl n E = true → wpQuiet P ops C (fun a' => ∀ w', C w' → Q .normal a' w') rest (den n E)

/-- In every world of C the operation yields v and leaves the world alone. -/
structure Yields (P : Program) (C : World → Prop) (E : List (Nat × Value)) (op : Op) (ty : TypeId) (v : Value) : Prop where
  h : ∀ w, C w → ∀ d pos af g, (execOp (ev E) ⟨d, op, ty, pos, af, g⟩).run P w = .ok (.value v) w

/-- A function of the program that has a body, and what a call of it does. -/
structure Does (P : Program) (f : Nat) (args : Array Value) (w : World) (R : Value → World → Prop) : Prop where
  enters : ∀ args' w', (callFunc f args').run P w' = .ok (.enter f args') w'
  calls : Calls P f args w (fun e w' => ∃ v, e = .returned v ∧ R v w')

section
variable {P : Program} {ops : Array Oper} {Q : Exit → Act → World → Prop} {rest : List Oper} {n : Nat} {E : List (Nat × Value)} {w : World}

theorem Does.mono {f : Nat} {args : Array Value} {R R' : Value → World → Prop} (h : Does P f args w R) (hr : ∀ v w', R v w' → R' v w') : Does P f args w R' :=
  ⟨h.enters, h.calls.mono fun _ _ ⟨v, he, hR⟩ => ⟨v, he, hr _ _ hR⟩⟩

/-! ### Regions in the order of the text -/

theorem RL.nil (k : Fin Q .normal n E w) : RL P ops Q [] n E w := ⟨fun h => k.h h⟩

theorem wanted_none {d : Option Tmp} {op : Op} {ty : TypeId} {pos : String} {af : Array Edge} (y : Nat → Option Bool) : Region.wanted ⟨d, op, ty, pos, af, none⟩ y = true := rfl

theorem RL.val {d : Nat} {op : Op} {ty : TypeId} {pos : String} {af : Array Edge} {v : Value} {w' : World} (hd : Nat.blt d n = true)
    (hr : (execOp (ev E) ⟨some d, op, ty, pos, af, none⟩).run P w = .ok (.value v) w') (k : RL P ops Q rest n ((d, v) :: E) w') :
    RL P ops Q (⟨some d, op, ty, pos, af, none⟩ :: rest) n E w := by
  refine ⟨fun h => ?_⟩
  unfold wpList
  rw [if_pos (wanted_none _)]
  refine .inl ?_
  unfold Oper.wp
  rw [den_eval h, hr]
  show wpList P ops Q rest ((den n E).put (some d) v) w'
  rw [den_put v (blt_lt hd)]
  exact k.h (kl_cons hd h)

theorem RL.y {d : Nat} {op : Op} {ty : TypeId} {pos : String} {af : Array Edge} {v : Value} (hd : Nat.blt d n = true)
    (hr : Yields P (fun w' => w' = w) E op ty v) (k : RL P ops Q rest n ((d, v) :: E) w) :
    RL P ops Q (⟨some d, op, ty, pos, af, none⟩ :: rest) n E w := RL.val hd (hr.h w rfl _ _ _ _) k

theorem RL.skip {op : Op} {ty : TypeId} {pos : String} {af : Array Edge} {w' : World}
    (hr : (execOp (ev E) ⟨none, op, ty, pos, af, none⟩).run P w = .ok .skip w') (k : RL P ops Q rest n E w') :
    RL P ops Q (⟨none, op, ty, pos, af, none⟩ :: rest) n E w := by
  refine ⟨fun h => ?_⟩
  unfold wpList
  rw [if_pos (wanted_none _)]
  refine .inl ?_
  unfold Oper.wp
  rw [den_eval h, hr]
  exact k.h h

def evs (E : List (Nat × Value)) (args : Array Operand) : Array Value := (args.toList.map (ev E)).toArray

theorem run_call {f : Nat} {args : Array Operand} {tys : Array TypeId} {d : Option Tmp} {ty : TypeId} {pos : String} {af : Array Edge} {g : Option (Nat × Bool)}
    (h : ∀ args' w', (callFunc f args').run P w' = .ok (.enter f args') w') :
    (execOp (ev E) ⟨d, .call ⟨.value (.func f), args, tys⟩, ty, pos, af, g⟩).run P w = .ok (.enter f (evs E args)) w := by
  have e : args.map (ev E) = evs E args := by unfold evs; apply Array.toList_inj.1; simp
  simp [execOp, resolve, ev, Deferred.ofValue, invoke, h, e]

theorem RL.call {d f : Nat} {args : Array Operand} {tys : Array TypeId} {ty : TypeId} {pos : String} {af : Array Edge} {R : Value → World → Prop} (hd : Nat.blt d n = true)
    (hc : Does P f (evs E args) w R) (k : ∀ v w', R v w' → RL P ops Q rest n ((d, v) :: E) w') :
    RL P ops Q (⟨some d, .call ⟨.value (.func f), args, tys⟩, ty, pos, af, none⟩ :: rest) n E w := by
  refine ⟨fun h => ?_⟩
  unfold wpList
  rw [if_pos (wanted_none _)]
  refine .inl ?_
  unfold Oper.wp
  rw [den_eval h, run_call hc.enters]
  show Calls P f (evs E args) w _
  refine hc.calls.mono ?_
  rintro e w' ⟨v, rfl, hR⟩
  show wpList P ops Q rest ((den n E).put (some d) v) w'
  rw [den_put v (blt_lt hd)]
  exact (k v w' hR).h (kl_cons hd h)

/-- A call of a function value. -/
theorem run_callv {f : Nat} {cv : Operand} {first cap : Array Value} {args : Array Operand} {tys : Array TypeId} {d : Option Tmp} {ty : TypeId} {pos : String} {af : Array Edge} {g : Option (Nat × Bool)}
    (h : ∀ args' w', (callFunc f args').run P w' = .ok (.enter f args') w') (hv : ev E cv = .func (.func f) first cap) :
    (execOp (ev E) ⟨d, .call ⟨.value cv, args, tys⟩, ty, pos, af, g⟩).run P w = .ok (.enter f (first ++ evs E args ++ cap)) w := by
  have e : args.map (ev E) = evs E args := by unfold evs; apply Array.toList_inj.1; simp
  simp [execOp, resolve, hv, Deferred.ofValue, invoke, h, e]

theorem RL.callv {d f : Nat} {cv : Operand} {first cap : Array Value} {args : Array Operand} {tys : Array TypeId} {ty : TypeId} {pos : String} {af : Array Edge} {R : Value → World → Prop} (hd : Nat.blt d n = true)
    (hv : ev E cv = .func (.func f) first cap) (hc : Does P f (first ++ evs E args ++ cap) w R) (k : ∀ v w', R v w' → RL P ops Q rest n ((d, v) :: E) w') :
    RL P ops Q (⟨some d, .call ⟨.value cv, args, tys⟩, ty, pos, af, none⟩ :: rest) n E w := by
  refine ⟨fun h => ?_⟩
  unfold wpList
  rw [if_pos (wanted_none _)]
  refine .inl ?_
  unfold Oper.wp
  rw [den_eval h, run_callv hc.enters hv]
  show Calls P f _ w _
  refine hc.calls.mono ?_
  rintro e w' ⟨v, rfl, hR⟩
  show wpList P ops Q rest ((den n E).put (some d) v) w'
  rw [den_put v (blt_lt hd)]
  exact (k v w' hR).h (kl_cons hd h)

/-- Which temporary a guard looks at. -/
def gdst (ops : Array Oper) (j : Nat) : Option Nat := (ops[j]?).bind (·.dst)

theorem yielded_den {j t : Nat} {b : Bool} (hj : gdst ops j = some t) (ht : Nat.blt t n = true) (hv : lk E t = .bool b) : yielded ops (den n E).tmps j = some b := by
  unfold yielded
  have : (ops[j]?).bind (·.dst) = some t := hj
  simp only [this, Option.bind_some]
  rw [den_get (blt_lt ht), hv]

theorem RL.take {d : Option Tmp} {op : Op} {ty : TypeId} {pos : String} {af : Array Edge} {j t : Nat} {b : Bool} (hj : gdst ops j = some t) (ht : Nat.blt t n = true) (hv : lk E t = .bool b)
    (k : RL P ops Q (⟨d, op, ty, pos, af, none⟩ :: rest) n E w) : RL P ops Q (⟨d, op, ty, pos, af, some (j, b)⟩ :: rest) n E w := by
  refine ⟨fun h => ?_⟩
  have hk := k.h h
  unfold wpList at hk ⊢
  rw [if_pos (wanted_none _)] at hk
  rw [if_pos (by simp [Region.wanted, yielded_den (n := n) hj ht hv])]
  exact hk

theorem RL.pass {d : Nat} {op : Op} {ty : TypeId} {pos : String} {af : Array Edge} {j t : Nat} {b : Bool} (hj : gdst ops j = some t) (ht : Nat.blt t n = true) (hv : lk E t = .bool (!b)) (hd : Nat.blt d n = true)
    (k : RL P ops Q rest n ((d, undef) :: E) w) : RL P ops Q (⟨some d, op, ty, pos, af, some (j, b)⟩ :: rest) n E w := by
  refine ⟨fun h => ?_⟩
  unfold wpList
  rw [if_neg (by simp [Region.wanted, yielded_den (n := n) hj ht hv])]
  rw [den_put undef (blt_lt hd)]
  exact k.h (kl_cons hd h)

/-- The guard's guard was not met: nothing was yielded. -/
theorem RL.pass2 {d : Nat} {op : Op} {ty : TypeId} {pos : String} {af : Array Edge} {j t : Nat} {b : Bool} (hj : gdst ops j = some t) (ht : Nat.blt t n = true) (hv : lk E t = undef) (hd : Nat.blt d n = true)
    (k : RL P ops Q rest n ((d, undef) :: E) w) : RL P ops Q (⟨some d, op, ty, pos, af, some (j, b)⟩ :: rest) n E w := by
  refine ⟨fun h => ?_⟩
  unfold wpList
  have hy : yielded ops (den n E).tmps j = none := by
    unfold yielded
    have : (ops[j]?).bind (·.dst) = some t := hj
    simp only [this, Option.bind_some]
    rw [den_get (blt_lt ht), hv]
    rfl
  rw [if_neg (by simp [Region.wanted, hy])]
  rw [den_put undef (blt_lt hd)]
  exact k.h (kl_cons hd h)

/-- Two entries of one slot: the newer one counts. -/
theorem lk_same {t : Nat} {v : Value} (h : lk E t = v) : ∀ s, lk ((t, v) :: E) s = lk E s := by
  intro s
  simp only [lk]
  cases hb : Nat.beq t s with
  | false => rfl
  | true => have := Nat.eq_of_beq_eq_true hb; subst this; simp [h]

theorem den_congr {E' : List (Nat × Value)} (h : ∀ t, lk E' t = lk E t) : den n E' = den n E := by
  unfold den
  congr 1
  apply Array.ext
  · simp
  · intro i h1 h2; simp [h]

def agrees (E : List (Nat × Value)) : List (Nat × Value) → Prop
  | [] => True
  | (d, v) :: S => lk E d = v ∧ agrees E S

theorem agrees_lk : ∀ {S : List (Nat × Value)}, agrees E S → ∀ t, lk (S ++ E) t = lk E t
  | [], _, _ => rfl
  | (d, v) :: S, h, t => by
    show (bif Nat.beq d t then v else lk (S ++ E) t) = lk E t
    rw [agrees_lk h.2 t]
    cases hb : Nat.beq d t with
    | false => rfl
    | true => have := Nat.eq_of_beq_eq_true hb; subst this; exact h.1.symm

theorem kl_append {S : List (Nat × Value)} (hS : kl n S = true) (h : kl n E = true) : kl n (S ++ E) = true := by
  induction S with
  | nil => exact h
  | cons p S ih =>
    obtain ⟨d, v⟩ := p
    simp only [kl, Bool.and_eq_true] at hS
    simp only [List.cons_append, kl, Bool.and_eq_true]
    exact ⟨hS.1, ih hS.2⟩

/-- A bool in a slot is split on, and stands there written out from here on. -/
theorem RL.split {t : Nat} {b : Bool} (hv : lk E t = .bool b) (ht : Nat.blt t n = true) (h1 : b = true → RL P ops Q rest n ((t, .bool true) :: E) w) (h0 : b = false → RL P ops Q rest n ((t, .bool false) :: E) w) :
    RL P ops Q rest n E w := by
  refine ⟨fun h => ?_⟩
  cases b with
  | true =>
    have := (h1 rfl).h (kl_cons ht h)
    rwa [den_congr (lk_same hv)] at this
  | false =>
    have := (h0 rfl).h (kl_cons ht h)
    rwa [den_congr (lk_same hv)] at this

/-- A bool in a slot whose value is known. -/
theorem RL.force {t : Nat} {b : Bool} (c : Bool) (hv : lk E t = .bool b) (ht : Nat.blt t n = true) (hb : b = c) (k : RL P ops Q rest n ((t, .bool c) :: E) w) : RL P ops Q rest n E w := by
  subst hb
  refine ⟨fun h => ?_⟩
  have := k.h (kl_cons ht h)
  rwa [den_congr (lk_same hv)] at this

/-! ### Regions whose order is open -/
variable {C : World → Prop}

theorem QL.force {t : Nat} {b : Bool} (c : Bool) (hv : lk E t = .bool b) (ht : Nat.blt t n = true) (hb : b = c) (k : QL P ops C Q rest n ((t, .bool c) :: E)) : QL P ops C Q rest n E := by
  subst hb
  refine ⟨fun h => ?_⟩
  have := k.h (kl_cons ht h)
  rwa [den_congr (lk_same hv)] at this

theorem QL.nil (k : ∀ w', C w' → Fin Q .normal n E w') : QL P ops C Q [] n E := ⟨fun h w' hw => (k w' hw).h h⟩

theorem QL.y {d : Nat} {op : Op} {ty : TypeId} {pos : String} {af : Array Edge} {v : Value} (hd : Nat.blt d n = true)
    (hr : Yields P C E op ty v) (k : QL P ops C Q rest n ((d, v) :: E)) : QL P ops C Q (⟨some d, op, ty, pos, af, none⟩ :: rest) n E := by
  refine ⟨fun h => ?_⟩
  unfold wpQuiet
  rw [if_pos (wanted_none _)]
  refine ⟨v, fun w hw => ?_, ?_⟩
  · unfold Oper.quietAt
    rw [den_eval h, hr.h w hw]
    exact ⟨rfl, rfl⟩
  · show wpQuiet P ops C _ rest ((den n E).put (some d) v)
    rw [den_put v (blt_lt hd)]
    exact k.h (kl_cons hd h)

theorem QL.call {d f : Nat} {args : Array Operand} {tys : Array TypeId} {ty : TypeId} {pos : String} {af : Array Edge} {v : Value} (hd : Nat.blt d n = true)
    (hc : ∀ w, C w → Does P f (evs E args) w (fun u w' => u = v ∧ C w')) (k : QL P ops C Q rest n ((d, v) :: E)) :
    QL P ops C Q (⟨some d, .call ⟨.value (.func f), args, tys⟩, ty, pos, af, none⟩ :: rest) n E := by
  refine ⟨fun h => ?_⟩
  unfold wpQuiet
  rw [if_pos (wanted_none _)]
  refine ⟨v, fun w hw => ?_, ?_⟩
  · unfold Oper.quietAt
    rw [den_eval h, run_call (hc w hw).enters]
    refine ⟨rfl, (hc w hw).calls.mono ?_⟩
    rintro e w' ⟨u, rfl, rfl, hC⟩
    exact ⟨rfl, hC⟩
  · show wpQuiet P ops C _ rest ((den n E).put (some d) v)
    rw [den_put v (blt_lt hd)]
    exact k.h (kl_cons hd h)

theorem QL.callv {d f : Nat} {cv : Operand} {first cap : Array Value} {args : Array Operand} {tys : Array TypeId} {ty : TypeId} {pos : String} {af : Array Edge} {v : Value} (hd : Nat.blt d n = true)
    (hv : ev E cv = .func (.func f) first cap)
    (hc : ∀ w, C w → Does P f (first ++ evs E args ++ cap) w (fun u w' => u = v ∧ C w')) (k : QL P ops C Q rest n ((d, v) :: E)) :
    QL P ops C Q (⟨some d, .call ⟨.value cv, args, tys⟩, ty, pos, af, none⟩ :: rest) n E := by
  refine ⟨fun h => ?_⟩
  unfold wpQuiet
  rw [if_pos (wanted_none _)]
  refine ⟨v, fun w hw => ?_, ?_⟩
  · unfold Oper.quietAt
    rw [den_eval h, run_callv (hc w hw).enters hv]
    refine ⟨rfl, (hc w hw).calls.mono ?_⟩
    rintro e w' ⟨u, rfl, rfl, hC⟩
    exact ⟨rfl, hC⟩
  · show wpQuiet P ops C _ rest ((den n E).put (some d) v)
    rw [den_put v (blt_lt hd)]
    exact k.h (kl_cons hd h)

theorem QL.take {d : Option Tmp} {op : Op} {ty : TypeId} {pos : String} {af : Array Edge} {j t : Nat} {b : Bool} (hj : gdst ops j = some t) (ht : Nat.blt t n = true) (hv : lk E t = .bool b)
    (k : QL P ops C Q (⟨d, op, ty, pos, af, none⟩ :: rest) n E) : QL P ops C Q (⟨d, op, ty, pos, af, some (j, b)⟩ :: rest) n E := by
  refine ⟨fun h => ?_⟩
  have hk := k.h h
  unfold wpQuiet at hk ⊢
  rw [if_pos (wanted_none _)] at hk
  rw [if_pos (by simp [Region.wanted, yielded_den (n := n) hj ht hv])]
  exact hk

theorem QL.pass {d : Nat} {op : Op} {ty : TypeId} {pos : String} {af : Array Edge} {j t : Nat} {b : Bool} (hj : gdst ops j = some t) (ht : Nat.blt t n = true) (hv : lk E t = .bool (!b)) (hd : Nat.blt d n = true)
    (k : QL P ops C Q rest n ((d, undef) :: E)) : QL P ops C Q (⟨some d, op, ty, pos, af, some (j, b)⟩ :: rest) n E := by
  refine ⟨fun h => ?_⟩
  unfold wpQuiet
  rw [if_neg (by simp [Region.wanted, yielded_den (n := n) hj ht hv])]
  rw [den_put undef (blt_lt hd)]
  exact k.h (kl_cons hd h)

theorem QL.pass2 {d : Nat} {op : Op} {ty : TypeId} {pos : String} {af : Array Edge} {j t : Nat} {b : Bool} (hj : gdst ops j = some t) (ht : Nat.blt t n = true) (hv : lk E t = undef) (hd : Nat.blt d n = true)
    (k : QL P ops C Q rest n ((d, undef) :: E)) : QL P ops C Q (⟨some d, op, ty, pos, af, some (j, b)⟩ :: rest) n E := by
  refine ⟨fun h => ?_⟩
  unfold wpQuiet
  have hy : yielded ops (den n E).tmps j = none := by
    unfold yielded
    have : (ops[j]?).bind (·.dst) = some t := hj
    simp only [this, Option.bind_some]
    rw [den_get (blt_lt ht), hv]
    rfl
  rw [if_neg (by simp [Region.wanted, hy])]
  rw [den_put undef (blt_lt hd)]
  exact k.h (kl_cons hd h)

theorem QL.split {t : Nat} {b : Bool} (hv : lk E t = .bool b) (ht : Nat.blt t n = true) (h1 : b = true → QL P ops C Q rest n ((t, .bool true) :: E)) (h0 : b = false → QL P ops C Q rest n ((t, .bool false) :: E)) :
    QL P ops C Q rest n E := by
  refine ⟨fun h => ?_⟩
  cases b with
  | true =>
    have := (h1 rfl).h (kl_cons ht h)
    rwa [den_congr (lk_same hv)] at this
  | false =>
    have := (h0 rfl).h (kl_cons ht h)
    rwa [den_congr (lk_same hv)] at this

/-! ### Code -/

theorem CW.region {id : Nat} {l : List Oper} (k : RL P l.toArray Q l n E w) : CW P Q (.region id l.toArray false) n E w :=
  ⟨fun h => wp_region_lit (k.h h)⟩

theorem CW.quiet {id : Nat} {l : List Oper} (C : World → Prop) (hm : P.follows .mixedOrders = true) (hB : Region.lexB .any l.toArray = true) (hC : C { w with drawn := w.drawn + 1 }) (k : QL P l.toArray C Q l n E) :
    CW P Q (.region id l.toArray true) n E w :=
  ⟨fun h => wp_region_quiet (C := C) hm hB hC (by simpa using k.h h)⟩

theorem CW.seq {x y : Code} (k : CW P (Exit.then (y.wp P Q) Q) x n E w) : CW P Q (.seq x y) n E w := ⟨fun h => wp_seq (k.h h)⟩
theorem CW.skip (k : Fin Q .normal n E w) : CW P Q .skip n E w := ⟨fun h => wp_skip (k.h h)⟩
theorem CW.ret (k : Fin Q .ret n E w) : CW P Q .ret n E w := ⟨fun h => wp_ret (k.h h)⟩
theorem CW.exit {id : Nat} (k : Fin Q (.exit id) n E w) : CW P Q (.exit id) n E w := ⟨fun h => wp_exit (k.h h)⟩
theorem CW.block {id : Nat} {c : Code} (k : CW P (Exit.inBlock id Q) c n E w) : CW P Q (.block id c) n E w := ⟨fun h => wp_block (k.h h)⟩

theorem CW.cond {t : Nat} {x y : Code} {b : Bool} (hv : lk E t = .bool b) (ht : Nat.blt t n = true) (h1 : b = true → CW P Q x n ((t, .bool true) :: E) w) (h0 : b = false → CW P Q y n ((t, .bool false) :: E) w) :
    CW P Q (.cond (.tmp t) x y) n E w := by
  refine ⟨fun h => ?_⟩
  have he : (den n E).eval (.tmp t) = .bool b := by rw [den_eval h]; exact hv
  refine wp_cond_split he (fun hb => ?_) (fun hb => ?_)
  · have := (h1 hb).h (kl_cons ht h)
    subst hb
    rwa [den_congr (lk_same hv)] at this
  · have := (h0 hb).h (kl_cons ht h)
    subst hb
    rwa [den_congr (lk_same hv)] at this

theorem CW.condT {t : Nat} {x y : Code} {b : Bool} (hv : lk E t = .bool b) (hb : b = true) (k : CW P Q x n E w) : CW P Q (.cond (.tmp t) x y) n E w := by
  subst hb
  exact ⟨fun h => wp_cond_true (by rw [den_eval h]; exact hv) (k.h h)⟩

theorem CW.condF {t : Nat} {x y : Code} {b : Bool} (hv : lk E t = .bool b) (hb : b = false) (k : CW P Q y n E w) : CW P Q (.cond (.tmp t) x y) n E w := by
  subst hb
  exact ⟨fun h => wp_cond_false (by rw [den_eval h]; exact hv) (k.h h)⟩

/-- From here on the frame is known by these slots. -/
theorem CW.re {c : Code} (S : List (Nat × Value)) (hS : agrees E S) (hk : kl n S = true) (k : CW P Q c n (S ++ E) w) : CW P Q c n E w :=
  ⟨fun h => by have := k.h (kl_append hk h); rwa [den_congr (agrees_lk hS)] at this⟩

theorem Fin.re {e : Exit} (S : List (Nat × Value)) (hS : agrees E S) (hk : kl n S = true) (k : Fin Q e n (S ++ E) w) : Fin Q e n E w :=
  ⟨fun h => by have := k.h (kl_append hk h); rwa [den_congr (agrees_lk hS)] at this⟩

/-- What is asked behind a piece of code, in terms of the frame's list. -/
def LE (n : Nat) (K : List (Nat × Value) → World → Prop) (a : Act) (w : World) : Prop := ∃ E, a = den n E ∧ kl n E = true ∧ K E w

theorem CW.loop {c : Code} (J : Nat → List (Nat × Value) → World → Prop) (m0 : Nat) (h0 : J m0 E w)
    (round : ∀ m E' w', J m E' w' → CW P (Exit.then (LE n (fun E'' w'' => ∃ m', m' < m ∧ J m' E'' w'')) Q) c n E' w') : CW P Q (.loop c) n E w := by
  refine ⟨fun h => ?_⟩
  intro b k cs
  have key : ∀ m E' w', kl n E' = true → J m E' w' →
      ∃ e a' w'', Q e a' w'' ∧ Arrives P (lone (b.at (den n E') (.code c :: .inLoop c :: k)) cs w') b k cs e a' w'' := by
    intro m
    induction m using Nat.strongRecOn with
    | _ m ih =>
      intro E' w' hk hJ
      obtain ⟨e, a₁, w₁, hq, harr⟩ := (round m E' w' hJ).h hk b (.inLoop c :: k) cs
      cases e with
      | normal =>
        obtain ⟨E'', rfl, hk'', m', hlt, hJ'⟩ := hq
        obtain ⟨e₂, a₂, w₂, hq₂, harr₂⟩ := ih m' hlt E'' w₁ hk'' hJ'
        exact ⟨e₂, a₂, w₂, hq₂, .of_steps (Steps.trans harr (.one step_inLoop)) harr₂⟩
      | exit id => exact ⟨_, a₁, w₁, hq, .pass (x := .inLoop c) rfl (fun _ _ => .inl (by simp)) harr⟩
      | goto l => exact ⟨_, a₁, w₁, hq, .pass (x := .inLoop c) rfl (fun _ _ => .inl (by simp)) harr⟩
      | ret => exact ⟨_, a₁, w₁, hq, .pass (x := .inLoop c) rfl (fun _ _ => .inl (by simp)) harr⟩
      | panic ch => exact ⟨_, a₁, w₁, hq, .pass (x := .inLoop c) rfl (fun _ _ => .inl (by simp)) harr⟩
      | outgrown => exact ⟨_, a₁, w₁, hq, .pass (x := .inLoop c) rfl (fun _ _ => .inl (by simp)) harr⟩
  obtain ⟨e, a', w', hq, harr⟩ := key m0 E w h h0
  exact ⟨e, a', w', hq, .of_steps (.one step_loop) harr⟩

/-- A piece of code whose ways meet again behind it. -/
theorem CW.cut {x y : Code} (J : List (Nat × Value) → World → Prop) (hx : CW P (Exit.then (LE n J) Q) x n E w) (hy : ∀ E' w', J E' w' → CW P Q y n E' w') : CW P Q (.seq x y) n E w := by
  refine ⟨fun h => wp_seq (Code.wp_mono (fun e a w' q => ?_) (hx.h h))⟩
  cases e with
  | normal => obtain ⟨E', rfl, hk, hJ⟩ := q; exact (hy E' w' hJ).h hk
  | exit id => exact q
  | goto l => exact q
  | ret => exact q
  | panic ch => exact q
  | outgrown => exact q

/-! ### Ends -/

theorem Fin.next {y : Code} (k : CW P Q y n E w) : Fin (Exit.then (y.wp P Q) Q) .normal n E w := ⟨fun h => k.h h⟩
theorem Fin.le {K : List (Nat × Value) → World → Prop} (k : K E w) : Fin (Exit.then (LE n K) Q) .normal n E w := ⟨fun h => ⟨E, rfl, h, k⟩⟩
theorem Fin.thenRet {K : Act → World → Prop} (k : Fin Q .ret n E w) : Fin (Exit.then K Q) .ret n E w := ⟨fun h => k.h h⟩
theorem Fin.thenExit {K : Act → World → Prop} {id : Nat} (k : Fin Q (.exit id) n E w) : Fin (Exit.then K Q) (.exit id) n E w := ⟨fun h => k.h h⟩
theorem Fin.blockNormal {id : Nat} (k : Fin Q .normal n E w) : Fin (Exit.inBlock id Q) .normal n E w := ⟨fun h => k.h h⟩
theorem Fin.blockRet {id : Nat} (k : Fin Q .ret n E w) : Fin (Exit.inBlock id Q) .ret n E w := ⟨fun h => k.h h⟩
theorem Fin.blockHit {id : Nat} (k : Fin Q .normal n E w) : Fin (Exit.inBlock id Q) (.exit id) n E w :=
  ⟨fun h => by show (if id = id then _ else _); rw [if_pos rfl]; exact k.h h⟩
theorem Fin.blockMiss {id id' : Nat} (hne : Nat.beq id' id = false) (k : Fin Q (.exit id') n E w) : Fin (Exit.inBlock id Q) (.exit id') n E w :=
  ⟨fun h => by
    show (if id' = id then _ else _)
    rw [if_neg (fun e => by subst e; simp at hne)]
    exact k.h h⟩

theorem Fin.ret0 {fn : Func} {R : Ending → World → Prop} (hr : fn.results = #[]) (k : R (.returned (.tuple #[])) w) : Fin (bodyPost P fn R) .ret n E w :=
  ⟨fun _ => ⟨rfl, _, results_none hr _ _ _, k⟩⟩
theorem Fin.end0 {fn : Func} {R : Ending → World → Prop} (hr : fn.results = #[]) (k : R (.returned (.tuple #[])) w) : Fin (bodyPost P fn R) .normal n E w :=
  ⟨fun _ => ⟨rfl, _, results_none hr _ _ _, k⟩⟩
theorem Fin.ret1 {fn : Func} {R : Ending → World → Prop} {t : Nat} {v : Value} (hr : fn.results = #[.tmp t]) (hv : lk E t = v) (k : R (.returned v) w) : Fin (bodyPost P fn R) .ret n E w :=
  ⟨fun h => ⟨rfl, _, results_tmp hr _ _ _, by rw [den_tmp h, hv]; exact k⟩⟩
theorem Fin.ret2 {fn : Func} {R : Ending → World → Prop} {t u : Nat} {v1 v2 : Value} (hr : fn.results = #[.tmp t, .tmp u]) (h1 : lk E t = v1) (h2 : lk E u = v2) (k : R (.returned (.tuple #[v1, v2])) w) : Fin (bodyPost P fn R) .ret n E w :=
  ⟨fun h => ⟨rfl, _, results_tmp2 hr _ _ _, by rw [den_tmp h, den_tmp h, h1, h2]; exact k⟩⟩
theorem Fin.ret3 {fn : Func} {R : Ending → World → Prop} {t u v : Nat} {v1 v2 v3 : Value} (hr : fn.results = #[.tmp t, .tmp u, .tmp v]) (h1 : lk E t = v1) (h2 : lk E u = v2) (h3 : lk E v = v3) (k : R (.returned (.tuple #[v1, v2, v3])) w) : Fin (bodyPost P fn R) .ret n E w :=
  ⟨fun h => ⟨rfl, _, results_tmp3 hr _ _ _, by rw [den_tmp h, den_tmp h, den_tmp h, h1, h2, h3]; exact k⟩⟩

/-! ### The way into a function -/

def argE : Nat → List Value → List (Nat × Value)
  | _, [] => []
  | i, v :: vs => (i, v) :: argE (i + 1) vs

theorem lk_argE : ∀ (vs : List Value) (i t : Nat), lk (argE i vs) t = if i ≤ t ∧ t < i + vs.length then vs.getD (t - i) undef else undef
  | [], i, t => by simp [argE, lk]
  | v :: vs, i, t => by
    simp only [argE, lk]
    by_cases h : i = t
    · subst h; simp
    · have hb : Nat.beq i t = false := by
        cases hb : Nat.beq i t with
        | false => rfl
        | true => exact absurd (Nat.eq_of_beq_eq_true hb) h
      rw [hb, cond_false, lk_argE vs (i + 1) t]
      by_cases h2 : i ≤ t ∧ t < i + (v :: vs).length
      · have h3 : i + 1 ≤ t ∧ t < i + 1 + vs.length := by simp only [List.length_cons] at h2; omega
        rw [if_pos h2, if_pos h3, show t - i = (t - (i + 1)) + 1 from by omega]
        rfl
      · have h3 : ¬ (i + 1 ≤ t ∧ t < i + 1 + vs.length) := by simp only [List.length_cons] at h2; omega
        rw [if_neg h2, if_neg h3]

theorem kl_argE : ∀ (vs : List Value) (i m : Nat), i + vs.length ≤ m → kl m (argE i vs) = true
  | [], _, _, _ => rfl
  | v :: vs, i, m, h => by
    simp only [List.length_cons] at h
    simp only [argE, kl, Bool.and_eq_true]
    exact ⟨by simp [Nat.blt]; omega, kl_argE vs (i + 1) m (by omega)⟩

theorem den_args (args : Array Value) (m : Nat) (h : args.size ≤ m) : (⟨args ++ Array.replicate (m - args.size) undef, []⟩ : Act) = den m (argE 0 args.toList) := by
  unfold den
  simp only [Act.mk.injEq, and_true]
  apply Array.ext
  · simp; omega
  · intro i h1 h2
    simp only [Array.getElem_ofFn, lk_argE]
    rw [Array.getElem_append]
    by_cases hi : i < args.size
    · have : 0 ≤ i ∧ i < 0 + args.toList.length := by simpa using hi
      rw [dif_pos hi, if_pos this]
      simp [hi]
    · have : ¬ (0 ≤ i ∧ i < 0 + args.toList.length) := by simpa using hi
      rw [dif_neg hi, if_neg this]
      simp

theorem enter {f : Nat} {fn : Func} {c : Code} {args : Array Value} {R : Value → World → Prop} (hf : P.funcs[f]? = some fn) (hb : fn.body = some c) (m : Nat) (hm : fn.ntmps = m) (ha : Nat.ble args.size m = true)
    (hname : (fn.name == "runtime.NumGoroutine") = false)
    (k : CW P (bodyPost P fn (fun e w' => ∃ v, e = .returned v ∧ R v w')) c m (argE 0 args.toList) w) : Does P f args w R := by
  have ha' : args.size ≤ m := by simpa [Nat.ble_eq] using ha
  refine ⟨fun args' w' => ?_, calls_of_wp hf hb ?_⟩
  · have hn : ¬ fn.name = "runtime.NumGoroutine" := by simpa using hname
    simp only [callFunc, Sem.run_bind, program]
    simp [Sem.run, hf, hn, hb]
  · rw [hm, den_args args m ha']
    exact k.h (kl_argE _ _ _ (by simpa using ha'))
end
end B
end Go.Proofs.YtebegkegkdmbjaaDoor
