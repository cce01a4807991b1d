/-
  One lemma for each operation, over the calculus of the text 'Base'. Conditions are the hypotheses of each lemma.
-/
import Derived.Test.YtebegkegkdmbjaaDoorBase
namespace Go.Proofs.YtebegkegkdmbjaaDoor
namespace B
open Go.RowKit

theorem eqw {φ : World → Prop} {w : World} (h : φ w) : ∀ w', w' = w → φ w' := fun _ e => e ▸ h

section
variable {P : Program} {C : World → Prop} {E : List (Nat × Value)} {ty : TypeId}

theorem y_of {op : Op} {v : Value} (h : ∀ w, C w → ∀ d pos af g, (execOp (ev E) ⟨d, op, ty, pos, af, g⟩).run P w = .ok (.value v) w) : Yields P C E op ty v := ⟨h⟩

/-! ### Moves -/
theorem y_mov {x : Operand} {v : Value} (h : ev E x = v) : Yields P C E (.move x) ty v := ⟨fun w _ d pos af g => by simp [execOp, h]⟩
theorem y_asg {x : Operand} {v : Value} (h : ev E x = v) : Yields P C E (.assign x) ty v := ⟨fun w _ d pos af g => by simp [execOp, h]⟩
theorem y_pickT {c a b : Operand} {v : Value} (hc : ev E c = .bool true) (h : ev E a = v) : Yields P C E (.pick c a b) ty v := ⟨fun w _ d pos af g => by simp [execOp, hc, h, asBool]⟩
theorem y_pickF {c a b : Operand} {v : Value} (hc : ev E c = .bool false) (h : ev E b = v) : Yields P C E (.pick c a b) ty v := ⟨fun w _ d pos af g => by simp [execOp, hc, h, asBool]⟩
theorem y_ext {x : Operand} {k : Nat} {vs : Array Value} {v : Value} (hx : ev E x = .tuple vs) (hv : vs[k]? = some v) : Yields P C E (.extract x k) ty v :=
  ⟨fun w _ d pos af g => by simp [execOp, hx, Instr.extract, hv]⟩
theorem y_ext0 {x : Operand} {v : Value} {vs : List Value} (hx : ev E x = .tuple (v :: vs).toArray) : Yields P C E (.extract x 0) ty v := y_ext hx (by simp)
theorem y_ext1 {x : Operand} {u v : Value} {vs : List Value} (hx : ev E x = .tuple (u :: v :: vs).toArray) : Yields P C E (.extract x 1) ty v := y_ext hx (by simp)
theorem y_ext2 {x : Operand} {t u v : Value} {vs : List Value} (hx : ev E x = .tuple (t :: u :: v :: vs).toArray) : Yields P C E (.extract x 2) ty v := y_ext hx (by simp)
theorem y_fn {f : Go.Fn} {first cap : Array Operand} : Yields P C E (.makeFunc f first cap) ty (.func f (first.map (ev E)) (cap.map (ev E))) := ⟨fun w _ d pos af g => by simp [execOp, Instr.makeFunc]⟩

/-! ### Integers -/
section
variable {x y : Operand} {k : IntKind} {a b r : Int} {T U : TypeId}

theorem y_add (hx : ev E x = .int k a) (hy : ev E y = .int k b) (hr : k.wrap (a + b) = r) : Yields P C E (.binOp .add T x y U) ty (.int k r) :=
  ⟨fun w _ d pos af g => by simp [execOp, eqGuard, binOp, Op.intArith, hx, hy, hr]⟩
theorem y_sub (hx : ev E x = .int k a) (hy : ev E y = .int k b) (hr : k.wrap (a - b) = r) : Yields P C E (.binOp .sub T x y U) ty (.int k r) :=
  ⟨fun w _ d pos af g => by simp [execOp, eqGuard, binOp, Op.intArith, hx, hy, hr]⟩
theorem y_mul (hx : ev E x = .int k a) (hy : ev E y = .int k b) (hr : k.wrap (a * b) = r) : Yields P C E (.binOp .mul T x y U) ty (.int k r) :=
  ⟨fun w _ d pos af g => by simp [execOp, eqGuard, binOp, Op.intArith, hx, hy, hr]⟩
theorem y_quo (hx : ev E x = .int k a) (hy : ev E y = .int k b) (hb : b ≠ 0) (hr : k.wrap (a.tdiv b) = r) : Yields P C E (.binOp .quo T x y U) ty (.int k r) :=
  ⟨fun w _ d pos af g => by simp [execOp, eqGuard, binOp, Op.intDiv, hx, hy, hb, hr]⟩
theorem y_rem (hx : ev E x = .int k a) (hy : ev E y = .int k b) (hb : b ≠ 0) (hr : a.tmod b = r) : Yields P C E (.binOp .rem T x y U) ty (.int k r) :=
  ⟨fun w _ d pos af g => by simp [execOp, eqGuard, binOp, Op.intDiv, hx, hy, hb, hr]⟩
def bAnd (k : IntKind) (a b : Int) : Int := k.wrap (BitVec.ofInt k.bits a &&& BitVec.ofInt k.bits b).toNat
def bOr (k : IntKind) (a b : Int) : Int := k.wrap (BitVec.ofInt k.bits a ||| BitVec.ofInt k.bits b).toNat
def bAndNot (k : IntKind) (a b : Int) : Int := k.wrap (BitVec.ofInt k.bits a &&& ~~~ BitVec.ofInt k.bits b).toNat
theorem y_and (hx : ev E x = .int k a) (hy : ev E y = .int k b) (hr : bAnd k a b = r) : Yields P C E (.binOp .and T x y U) ty (.int k r) :=
  ⟨fun w _ d pos af g => by simp [execOp, eqGuard, binOp, Op.intBits, hx, hy, ← hr, bAnd]⟩
theorem y_or (hx : ev E x = .int k a) (hy : ev E y = .int k b) (hr : bOr k a b = r) : Yields P C E (.binOp .or T x y U) ty (.int k r) :=
  ⟨fun w _ d pos af g => by simp [execOp, eqGuard, binOp, Op.intBits, hx, hy, ← hr, bOr]⟩
theorem y_andNot (hx : ev E x = .int k a) (hy : ev E y = .int k b) (hr : bAndNot k a b = r) : Yields P C E (.binOp .andNot T x y U) ty (.int k r) :=
  ⟨fun w _ d pos af g => by simp [execOp, eqGuard, binOp, Op.intBits, hx, hy, ← hr, bAndNot]⟩
theorem y_shr {k' : IntKind} (hx : ev E x = .int k a) (hy : ev E y = .int k' b) (hb : 0 ≤ b) (hr : a.fdiv (2 ^ min b.toNat k.bits) = r) : Yields P C E (.binOp .shr T x y U) ty (.int k r) :=
  ⟨fun w _ d pos af g => by simp [execOp, eqGuard, binOp, Op.shift, hx, hy, Int.not_lt.2 hb, ← hr]⟩
theorem y_shl {k' : IntKind} (hx : ev E x = .int k a) (hy : ev E y = .int k' b) (hb : 0 ≤ b) (hr : k.wrap (a * 2 ^ min b.toNat k.bits) = r) : Yields P C E (.binOp .shl T x y U) ty (.int k r) :=
  ⟨fun w _ d pos af g => by simp [execOp, eqGuard, binOp, Op.shift, hx, hy, Int.not_lt.2 hb, ← hr]⟩

theorem y_lt (hx : ev E x = .int k a) (hy : ev E y = .int k b) : Yields P C E (.binOp .lss T x y U) ty (.bool (decide (a < b))) :=
  ⟨fun w _ d pos af g => by simp [execOp, eqGuard, binOp, Op.intCmp, hx, hy]⟩
theorem y_le (hx : ev E x = .int k a) (hy : ev E y = .int k b) : Yields P C E (.binOp .leq T x y U) ty (.bool (decide (a ≤ b))) :=
  ⟨fun w _ d pos af g => by simp [execOp, eqGuard, binOp, Op.intCmp, hx, hy]⟩
theorem y_gt (hx : ev E x = .int k a) (hy : ev E y = .int k b) : Yields P C E (.binOp .gtr T x y U) ty (.bool (decide (b < a))) :=
  ⟨fun w _ d pos af g => by simp [execOp, eqGuard, binOp, Op.intCmp, hx, hy]⟩
theorem y_ge (hx : ev E x = .int k a) (hy : ev E y = .int k b) : Yields P C E (.binOp .geq T x y U) ty (.bool (decide (b ≤ a))) :=
  ⟨fun w _ d pos af g => by simp [execOp, eqGuard, binOp, Op.intCmp, hx, hy]⟩
theorem y_eq (hx : ev E x = .int k a) (hy : ev E y = .int k b) : Yields P C E (.binOp .eql T x y U) ty (.bool (decide (a = b))) :=
  ⟨fun w _ d pos af g => by simp [execOp, eqGuard, binOp, Op.intCmp, hx, hy]; rfl⟩
theorem y_ne (hx : ev E x = .int k a) (hy : ev E y = .int k b) : Yields P C E (.binOp .neq T x y U) ty (.bool (decide (a ≠ b))) :=
  ⟨fun w _ d pos af g => by simp [execOp, eqGuard, binOp, Op.intCmp, hx, hy]; rfl⟩
theorem y_not {b : Bool} (hx : ev E x = .bool b) : Yields P C E (.unOp .not T x) ty (.bool (!b)) :=
  ⟨fun w _ d pos af g => by simp [execOp, Op.unary, hx]⟩
theorem y_neg (hx : ev E x = .int k a) (hr : k.wrap (0 - a) = r) : Yields P C E (.unOp .neg T x) ty (.int k r) :=
  ⟨fun w _ d pos af g => by simp only [execOp, Op.unary, hx, Op.intArith, hr]; rfl⟩
theorem run_equal_bool {p q : Bool} (hT : P.underlying T = some .bool) (w : World) : (Op.equal T (.bool p) (.bool q)).run P w = .ok (p == q) w := by
  have : ∀ n, (Op.equalIn (n + 1) T (.bool p) (.bool q)).run P w = .ok (p == q) w := fun n => by
    simp only [Op.equalIn, Sem.run_bind, run_underlying hT, Result.andThen_ok, Sem.run_pure]
  exact this 9999
theorem y_beq {p q : Bool} (hT : P.underlying T = some .bool) (hx : ev E x = .bool p) (hy : ev E y = .bool q) : Yields P C E (.binOp .eql T x y U) ty (.bool (p == q)) :=
  ⟨fun w _ d pos af g => by simp [execOp, eqGuard, binOp, hx, hy, run_equal_bool hT]⟩
theorem y_bne {p q : Bool} (hT : P.underlying T = some .bool) (hx : ev E x = .bool p) (hy : ev E y = .bool q) : Yields P C E (.binOp .neq T x y U) ty (.bool (p != q)) :=
  ⟨fun w _ d pos af g => by simp [execOp, eqGuard, binOp, hx, hy, run_equal_bool hT]; cases p <;> cases q <;> rfl⟩
theorem y_conv {k' : IntKind} (hT : ∃ s, P.underlying T = some s) (hU : P.underlying U = some (.int k')) (hx : ev E x = .int k a) (hr : k'.wrap a = r) : Yields P C E (.convert T U x) ty (.int k' r) :=
  ⟨fun w _ d pos af g => by obtain ⟨s, hs⟩ := hT; cases s <;> simp [execOp, convert, run_underlying hs, run_underlying hU, hx, Conv.intToInt, hr]⟩
theorem y_min {tys : Array TypeId} (hx : ev E x = .int k a) (hy : ev E y = .int k b) : Yields P C E (.call ⟨.builtin .min, #[x, y], tys⟩) ty (.int k (min a b)) :=
  ⟨fun w _ d pos af g => by
    simp [execOp, resolve, invoke, builtin, Builtin.min_, Builtin.min2, hx, hy]
    split <;> omega⟩
theorem y_max {tys : Array TypeId} (hx : ev E x = .int k a) (hy : ev E y = .int k b) : Yields P C E (.call ⟨.builtin .max, #[x, y], tys⟩) ty (.int k (max a b)) :=
  ⟨fun w _ d pos af g => by
    simp [execOp, resolve, invoke, builtin, Builtin.max_, Builtin.max2, hx, hy]
    split <;> omega⟩
end

/-! ### Strings, as lists of bytes -/
section
variable {x y : Operand} {l m : List UInt8} {T U : TypeId}

theorem size_mk (l : List UInt8) : (ByteArray.mk l.toArray).size = l.length := by show l.toArray.size = _; simp
theorem get_mk {l : List UInt8} {k : Nat} {c : UInt8} (hc : l[k]? = some c) : (ByteArray.mk l.toArray)[k]? = some c := by
  have hk : k < l.length := (List.getElem?_eq_some_iff.1 hc).1
  have hk' : k < (ByteArray.mk l.toArray).size := by rw [size_mk]; exact hk
  rw [getElem?_pos (ByteArray.mk l.toArray) k hk']
  have := (List.getElem?_eq_some_iff.1 hc).2
  simp only [Option.some.injEq]
  rw [← this]; rfl
theorem y_slen (hT : P.underlying T = some .string) (hx : ev E x = .string ⟨l.toArray⟩) : Yields P C E (.call ⟨.builtin .len, #[x], #[T]⟩) ty (.int .i64 l.length) :=
  ⟨fun w _ d pos af g => by
    have e := size_mk l
    generalize ByteArray.mk l.toArray = s at hx e
    simp [execOp, resolve, invoke, builtin, Builtin.len_, hx, run_underlying hT, goInt, e]⟩
theorem y_sidx {k : Nat} {kk : IntKind} {ix : Operand} {c : UInt8} (hT : P.underlying T = some .string) (hc : l[k]? = some c) (hx : ev E x = .string ⟨l.toArray⟩) (hi : ev E ix = .int kk k) :
    Yields P C E (.index T x ix) ty (.int .u8 c.toNat) :=
  ⟨fun w _ d pos af g => by
    have e := get_mk hc
    generalize ByteArray.mk l.toArray = s at hx e
    have h0 : (0 : Int) ≤ (k : Int) := by omega
    simp only [execOp, Instr.index, hx, hi, asIntOf, Sem.run_bind, Sem.run_pure, Result.andThen_ok, run_underlying hT, if_pos h0, Int.toNat_natCast, e]⟩
theorem y_scat (hb : l.length + m.length ≤ 9223372036854775807) (hx : ev E x = .string ⟨l.toArray⟩) (hy : ev E y = .string ⟨m.toArray⟩) : Yields P C E (.binOp .add T x y U) ty (.string ⟨(l ++ m).toArray⟩) :=
  ⟨fun w _ d pos af g => by
    have e : (ByteArray.mk l.toArray ++ ByteArray.mk m.toArray) = ByteArray.mk (l ++ m).toArray := by
      apply ByteArray.ext; simp
    have e1 := size_mk l
    have e2 := size_mk m
    generalize ByteArray.mk l.toArray = s at hx e e1
    generalize ByteArray.mk m.toArray = t at hy e e2
    have h2 : ¬ (IntKind.i64.max < ((s.size + t.size : Nat) : Int)) := by rw [e1, e2]; simp [IntKind.max, IntKind.signed, IntKind.bits]; omega
    simp only [execOp, eqGuard, binOp, Op.stringOp, hx, hy, Sem.run_bind, Sem.run_ite, Sem.run_pure, gt_iff_lt, if_neg h2, e]
    rfl⟩
theorem y_seq (hx : ev E x = .string ⟨l.toArray⟩) (hy : ev E y = .string ⟨m.toArray⟩) : Yields P C E (.binOp .eql T x y U) ty (.bool (decide (l = m))) :=
  ⟨fun w _ d pos af g => by
    have : (l == m) = decide (l = m) := by by_cases h : l = m <;> simp [h]
    simp only [execOp, eqGuard, binOp_string_eql, hx, hy, ByteArray.toList_mk, this]
    rfl⟩
theorem y_sne (hx : ev E x = .string ⟨l.toArray⟩) (hy : ev E y = .string ⟨m.toArray⟩) : Yields P C E (.binOp .neq T x y U) ty (.bool (decide (l ≠ m))) :=
  ⟨fun w _ d pos af g => by
    have : (!(l == m)) = decide (l ≠ m) := by by_cases h : l = m <;> simp [h]
    simp only [execOp, eqGuard, binOp_string_neq, hx, hy, ByteArray.toList_mk, ← this]
    rfl⟩
end
end
end B
end Go.Proofs.YtebegkegkdmbjaaDoor
