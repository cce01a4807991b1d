/-
  The plain side of the laws on blanks and keyways.
-/
import Derived.Test.YtgfaimkbedbanaaLists
namespace Go.Proofs.Ytgfaimkbedbanaa
namespace B
open Go.RowKit

/-- A profile. -/
def prof (n : Int) : Prop := 0 ≤ n ∧ n ≤ 4095
instance (n : Int) : Decidable (prof n) := by unfold prof; infer_instance

theorem prof_cast {n : Int} (h : prof n) : ∃ m : Nat, n = (m : Int) ∧ m < 4096 := ⟨n.toNat, by unfold prof at h; omega, by unfold prof at h; omega⟩

theorem ofInt64_nat (m : Nat) : BitVec.ofInt (IntKind.i64.bits) (m : Int) = BitVec.ofNat 64 m := by
  show BitVec.ofInt 64 (m : Int) = _
  exact BitVec.ofInt_ofNat 64 m

theorem bAnd_nat {a b : Nat} (ha : a < 9223372036854775808) (hb : b < 9223372036854775808) : bAnd .i64 a b = ((a &&& b : Nat) : Int) := by
  unfold bAnd
  rw [ofInt64_nat, ofInt64_nat]
  have h1 : (BitVec.ofNat 64 a &&& BitVec.ofNat 64 b).toNat = a &&& b := by
    rw [BitVec.toNat_and, BitVec.toNat_ofNat, BitVec.toNat_ofNat, Nat.mod_eq_of_lt (by omega), Nat.mod_eq_of_lt (by omega)]
  show IntKind.i64.wrap ((BitVec.ofNat 64 a &&& BitVec.ofNat 64 b).toNat : Int) = _
  rw [h1]
  have : a &&& b ≤ a := Nat.and_le_left
  exact IntWalk.i64_in _ (by omega)

theorem ofNat_bit (a i : Nat) (hi : i < 64) : (BitVec.ofNat 64 a)[i] = a.testBit i := by
  rw [← BitVec.getLsbD_eq_getElem, BitVec.getLsbD_ofNat]; simp [hi]

theorem bAndNot_zero {a b : Nat} (ha : a < 9223372036854775808) (_hb : b < 9223372036854775808) : bAndNot .i64 a b = 0 ↔ a &&& b = a := by
  unfold bAndNot
  rw [ofInt64_nat, ofInt64_nat]
  have key : (BitVec.ofNat 64 a &&& ~~~ BitVec.ofNat 64 b) = 0 ↔ a &&& b = a := by
    constructor
    · intro h
      apply Nat.eq_of_testBit_eq
      intro i
      rw [Nat.testBit_and]
      by_cases hi : i < 64
      · have := congrArg (fun v => v.getLsbD i) h
        simp [hi] at this
        rw [ofNat_bit _ _ hi, ofNat_bit _ _ hi] at this
        cases hx : a.testBit i <;> simp_all
      · have : a.testBit i = false := Nat.testBit_lt_two_pow (Nat.lt_of_lt_of_le (by omega : a < 2 ^ 64) (Nat.pow_le_pow_right (by omega) (by omega)))
        simp [this]
    · intro h
      apply BitVec.eq_of_getLsbD_eq
      intro i hi
      have := congrArg (fun v => Nat.testBit v i) h
      simp only [Nat.testBit_and] at this
      simp [hi]
      rw [ofNat_bit _ _ hi, ofNat_bit _ _ hi]
      cases hx : a.testBit i <;> simp_all
  rw [← key]
  show IntKind.i64.wrap ((BitVec.ofNat 64 a &&& ~~~ BitVec.ofNat 64 b).toNat : Int) = 0 ↔ _
  have hle : (BitVec.ofNat 64 a &&& ~~~ BitVec.ofNat 64 b).toNat ≤ a := by
    rw [BitVec.toNat_and, BitVec.toNat_ofNat, Nat.mod_eq_of_lt (by omega)]
    exact Nat.and_le_left
  rw [IntWalk.i64_in _ (by omega)]
  constructor
  · intro h
    apply BitVec.eq_of_toNat_eq
    simpa using h
  · intro h; rw [h]; rfl

/-- A blank enters a keyway. -/
def ent (b w : Int) : Prop := bAnd .i64 b w = b
instance (b w : Int) : Decidable (ent b w) := by unfold ent; infer_instance
theorem ent_iff {b w : Int} (hb : prof b) (hw : prof w) : bAndNot .i64 b w = 0 ↔ ent b w := by
  obtain ⟨m, rfl, hm⟩ := prof_cast hb
  obtain ⟨k, rfl, hk⟩ := prof_cast hw
  unfold ent
  rw [bAndNot_zero (by omega) (by omega), bAnd_nat (by omega) (by omega)]
  omega

def ewB (a b : Int) : Bool := decide (prof a ∧ prof b ∧ ent a b)
def ewC (a b : Int) : Int := if prof a ∧ prof b then 0 else 2

def waysOk (ws : List Int) : Prop := ws.length ≤ 8 ∧ ∀ x ∈ ws, 0 ≤ x ∧ x ≤ 4095
instance (ws : List Int) : Decidable (waysOk ws) := by unfold waysOk; infer_instance

def entAt (b : Int) (ws : List Int) (i : Nat) : Bool := decide (ent b (ws.getD i 0))
def waysOf (b : Int) (ws : List Int) : List Int := idxs (entAt b ws) ws.length
def woL (b : Int) (ws : List Int) : List Int := if prof b ∧ waysOk ws then waysOf b ws else []
def woC (b : Int) (ws : List Int) : Int := if prof b ∧ waysOk ws then 0 else 2

theorem waysOk_at {ws : List Int} (h : waysOk ws) {k : Nat} (hk : k < ws.length) : prof ws[k] := h.2 _ (List.getElem_mem hk)

theorem woL_le (b : Int) (ws : List Int) : (woL b ws).length ≤ 8 := by
  unfold woL
  split
  · rename_i h
    have := idxs_le (entAt b ws) ws.length
    have := h.2.1
    unfold waysOf; omega
  · simp

def commonTo (ws : List Int) (k : Nat) : Int := (ws.take k).foldl (fun c x => bAnd .i64 c x) 4095
theorem commonTo_succ {ws : List Int} {k : Nat} (h : k < ws.length) : commonTo ws (k + 1) = bAnd .i64 (commonTo ws k) ws[k] := by
  unfold commonTo; rw [List.take_succ_eq_append_getElem h, List.foldl_append]; rfl
def cwV (ws : List Int) : Int := if waysOk ws then commonTo ws ws.length else 0
def cwC (ws : List Int) : Int := if waysOk ws then 0 else 2

/-- The bit of a profile. -/
def pbit (p b : Int) : Prop := bAnd .i64 (p.fdiv (2 ^ min b.toNat IntKind.i64.bits)) 1 = 1
instance (p b : Int) : Decidable (pbit p b) := by unfold pbit; infer_instance
def ptx (p : Int) (j : Nat) : List UInt8 := (List.range j).map fun i : Nat => if pbit p (11 - (i : Int)) then 35 else 46
theorem ptx_len (p : Int) (j : Nat) : (ptx p j).length = j := by simp [ptx]
theorem ptx_yes {p : Int} {j : Nat} (h : pbit p (11 - (j : Int))) : ptx p (j + 1) = ptx p j ++ [35] := by simp [ptx, List.range_succ, h]
theorem ptx_no {p : Int} {j : Nat} (h : ¬ pbit p (11 - (j : Int))) : ptx p (j + 1) = ptx p j ++ [46] := by simp [ptx, List.range_succ, h]
theorem down (j : Nat) (h : j ≤ 12) : IntKind.i64.wrap (11 - (j : Int) - 1) = 11 - ((j + 1 : Nat) : Int) := by rw [IntWalk.i64_in _ (by omega)]; omega
def ptL (p : Int) : List UInt8 := if prof p then ptx p 12 else []
def ptC (p : Int) : Int := if prof p then 0 else 2
end B
end Go.Proofs.Ytgfaimkbedbanaa
