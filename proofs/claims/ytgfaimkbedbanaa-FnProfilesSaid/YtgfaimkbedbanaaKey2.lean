/-
  The plain side of ReadProfile, CountBlanks, CountExact and ExactBlank.
-/
import Derived.Test.YtgfaimkbedbanaaKey
namespace Go.Proofs.Ytgfaimkbedbanaa
namespace B
open Go.RowKit

/-! ### ReadProfile -/
def cbit (c : UInt8) : Nat := if c = 35 then 1 else 0
theorem cbit_le (c : UInt8) : cbit c ≤ 1 := by unfold cbit; split <;> omega
def binv (l : List UInt8) : Nat := l.foldl (fun n c => 2 * n + cbit c) 0
theorem binv_succ {l : List UInt8} {k : Nat} (h : k < l.length) : binv (l.take (k + 1)) = 2 * binv (l.take k) + cbit l[k] := by
  unfold binv; rw [List.take_succ_eq_append_getElem h, List.foldl_append]; rfl
theorem binv_lt {l : List UInt8} : ∀ k, k ≤ l.length → binv (l.take k) < 2 ^ k
  | 0, _ => by simp [binv]
  | k + 1, h => by
    have ih := binv_lt (l := l) k (by omega)
    have := cbit_le l[k]
    rw [binv_succ (by omega), Nat.pow_succ]
    omega
theorem binv_bit {l : List UInt8} : ∀ k, (hk : k ≤ l.length) → ∀ i, (hi : i < k) → (binv (l.take k)).testBit (k - 1 - i) = decide (l[i] = 35)
  | 0, _, i, hi => by omega
  | k + 1, hk, i, hi => by
    rw [binv_succ (by omega)]
    by_cases e : i = k
    · subst e
      rw [show i + 1 - 1 - i = 0 from by omega, Nat.testBit_zero]
      unfold cbit
      split <;> simp [*] <;> omega
    · rw [show k + 1 - 1 - i = (k - 1 - i) + 1 from by omega, Nat.testBit_succ]
      have : (2 * binv (l.take k) + cbit l[k]) / 2 = binv (l.take k) := by have := cbit_le l[k]; omega
      rw [this]
      exact binv_bit k (by omega) i (by omega)

theorem fdiv_nat (m s : Nat) (hs : s ≤ 64) : ((m : Int)).fdiv (2 ^ min ((s : Int)).toNat IntKind.i64.bits) = ((m / 2 ^ s : Nat) : Int) := by
  have h64 : IntKind.i64.bits = 64 := rfl
  rw [h64, Int.toNat_natCast, Nat.min_eq_left hs, Int.fdiv_eq_ediv_of_nonneg _ (by exact Int.pow_nonneg (by omega))]
  simp

theorem and_one (m : Nat) : m &&& 1 = m % 2 := Nat.and_two_pow_sub_one_eq_mod m 1

theorem pbit_nat {m b : Nat} (hm : m < 4096) (hb : b ≤ 64) : pbit (m : Int) (b : Int) ↔ m.testBit b = true := by
  unfold pbit
  rw [fdiv_nat m b hb]
  have h1 : m / 2 ^ b ≤ m := Nat.div_le_self _ _
  have := bAnd_nat (a := m / 2 ^ b) (b := 1) (by omega) (by omega)
  rw [show ((1 : Int)) = ((1 : Nat) : Int) from rfl, this, and_one, Nat.testBit_eq_decide_div_mod_eq, decide_eq_true_eq]
  omega

theorem ptx_at (p : Int) {i : Nat} (hi : i < 12) : (ptx p 12)[i]? = some (if pbit p (11 - (i : Int)) then 35 else 46) := by
  unfold ptx
  rw [List.getElem?_map, List.getElem?_range hi]
  rfl

theorem ptx_binv {l : List UInt8} (hl : l.length = 12) (hok : ∀ c ∈ l, c = 35 ∨ c = 46) : ptx (binv l : Int) 12 = l := by
  apply List.ext_getElem?
  intro i
  by_cases hi : i < 12
  · rw [ptx_at _ hi, List.getElem?_eq_getElem (show i < l.length by omega)]
    have hlt : binv l < 4096 := by have := binv_lt (l := l) 12 (by omega); rw [← hl, List.take_length] at this; rw [hl] at this; exact this
    have hb := binv_bit (l := l) 12 (by omega) i hi
    rw [show l.take 12 = l from by rw [← hl]; exact List.take_length] at hb
    have e : (11 - (i : Int)) = ((12 - 1 - i : Nat) : Int) := by omega
    rw [e]
    by_cases hc : l[i] = 35
    · rw [if_pos ((pbit_nat hlt (by omega)).2 (by rw [hb]; simpa using hc)), hc]
    · rw [if_neg (fun h => by have := (pbit_nat hlt (by omega)).1 h; rw [hb] at this; exact hc (by simpa using this))]
      rcases hok l[i] (List.getElem_mem _) with h | h
      · exact absurd h hc
      · rw [h]
  · rw [List.getElem?_eq_none (by rw [ptx_len]; omega), List.getElem?_eq_none (by omega)]

theorem ptx_ok {p : Int} {l : List UInt8} (h : ptx p 12 = l) : l.length = 12 ∧ ∀ c ∈ l, c = 35 ∨ c = 46 := by
  subst h
  refine ⟨ptx_len _ _, fun c hc => ?_⟩
  simp only [ptx, List.mem_map] at hc
  obtain ⟨i, _, rfl⟩ := hc
  split <;> simp

/-- A text of a profile. -/
def ptOk (l : List UInt8) : Prop := l.length = 12 ∧ ∀ c ∈ l, c = 35 ∨ c = 46
instance (l : List UInt8) : Decidable (ptOk l) := by unfold ptOk; infer_instance
def rpV (l : List UInt8) : Int := if ptOk l then (binv l : Int) else 0
def rpC (l : List UInt8) : Int := if ptOk l then 0 else 6

theorem rp_same {l : List UInt8} {k : Nat} (_hk : k ≤ l.length) (h12 : k ≤ 12) (h : k = l.length ∨ k = 12) : ptx (binv (l.take k) : Int) 12 = l ↔ ptOk l := by
  constructor
  · intro e; exact ptx_ok e
  · intro e
    have hk' : k = 12 := by have := e.1; omega
    have : l.take k = l := by rw [hk', ← e.1]; exact List.take_length
    rw [this]
    exact ptx_binv e.1 e.2

theorem u8_int (a b : UInt8) : ((a.toNat : Int) = (b.toNat : Int)) ↔ a = b := by
  constructor
  · intro h; exact UInt8.toNat_inj.1 (by omega)
  · intro h; rw [h]
theorem u8_35 (a : UInt8) : ((a.toNat : Int) = 35) ↔ a = 35 := u8_int a 35
theorem u8_46 (a : UInt8) : ((a.toNat : Int) = 46) ↔ a = 46 := u8_int a 46

/-- A step of the program's reading. -/
theorem rp_shl {m : Nat} (hm : m < 4096) : IntKind.i64.wrap ((m : Int) * 2 ^ min ((1 : Int)).toNat IntKind.i64.bits) = ((2 * m : Nat) : Int) := by
  have h64 : IntKind.i64.bits = 64 := rfl
  rw [h64]
  show IntKind.i64.wrap ((m : Int) * 2 ^ 1) = _
  rw [IntWalk.i64_in _ (by omega)]; omega
theorem rp_and {m : Nat} (hm : m < 4096) : bAnd .i64 ((2 * m : Nat) : Int) 4095 = ((2 * m % 4096 : Nat) : Int) := by
  have := bAnd_nat (a := 2 * m) (b := 4095) (by omega) (by omega)
  rw [show (4095 : Int) = ((4095 : Nat) : Int) from rfl, this]
  have := Nat.and_two_pow_sub_one_eq_mod (2 * m) 12
  simp only [Nat.reducePow, Nat.reduceSub] at this
  rw [this]
theorem rp_yes {l : List UInt8} {k : Nat} (h : k < l.length) (hc : l[k] = 35) : 2 * (binv (l.take k) % 4096) % 4096 + 1 = binv (l.take (k + 1)) % 4096 := by
  rw [binv_succ h, hc]; unfold cbit; rw [if_pos rfl]; omega
theorem rp_no {l : List UInt8} {k : Nat} (h : k < l.length) (hc : l[k] ≠ 35) : 2 * (binv (l.take k) % 4096) % 4096 = binv (l.take (k + 1)) % 4096 := by
  rw [binv_succ h]; unfold cbit; rw [if_neg hc]; omega

/-! ### CountBlanks -/
def cbits (m j : Nat) : Nat := ((List.range j).filter fun i => m.testBit i).length
theorem cbits_yes {m j : Nat} (h : m.testBit j = true) : cbits m (j + 1) = cbits m j + 1 := by simp [cbits, List.range_succ, h]
theorem cbits_no {m j : Nat} (h : m.testBit j = false) : cbits m (j + 1) = cbits m j := by simp [cbits, List.range_succ, h]
theorem cbits_le (m j : Nat) : cbits m j ≤ j := by
  have := List.length_filter_le (fun i => m.testBit i) (List.range j)
  simpa [cbits] using this
theorem cbits_up {m j : Nat} (h : m < 2 ^ j) : ∀ d, cbits m (j + d) = cbits m j
  | 0 => rfl
  | d + 1 => by
    have hb : m.testBit (j + d) = false := Nat.testBit_lt_two_pow (Nat.lt_of_lt_of_le h (Nat.pow_le_pow_right (by omega) (by omega)))
    rw [show j + (d + 1) = (j + d) + 1 from rfl, cbits_no hb, cbits_up h d]
theorem lt12 {m j : Nat} (hm : m < 4096) (hj : j ≤ 12) (h : 0 < m / 2 ^ j) : j < 12 := by
  rcases Nat.lt_or_ge j 12 with h1 | h1
  · exact h1
  · have e : j = 12 := by omega
    subst e
    have : m / 2 ^ 12 = 0 := Nat.div_eq_of_lt (by omega)
    omega
theorem lt_pow {m j : Nat} (h : m / 2 ^ j = 0) : m < 2 ^ j := by
  rcases Nat.div_eq_zero_iff.1 h with h | h
  · have : 0 < 2 ^ j := Nat.pos_of_ne_zero (by simp)
    omega
  · exact h
theorem half {D D' : Nat} (h : D ≤ 4096) (e : D' = D / 2) : IntKind.i64.wrap (((D : Nat) : Int).tdiv 2) = ((D' : Nat) : Int) := by
  subst e
  rw [IntWalk.i64_quo _ _ (by omega)]
  omega
def cbV (w : Int) : Int := if prof w then ((2 ^ cbits w.toNat 12 : Nat) : Int) else 0
def cbC (w : Int) : Int := if prof w then 0 else 2

def o1 (m : Nat) : Nat := (m / 2 &&& 6148914691236517205) + (m &&& 6148914691236517205)
def o2 (m : Nat) : Nat := (m / 4 &&& 3689348814741910323) + (m &&& 3689348814741910323)
def o3 (m : Nat) : Nat := (m / 16 + m) &&& 1085102592571150095
def o4 (m : Nat) : Nat := m + m / 256
def o5 (m : Nat) : Nat := m + m / 65536
def o6 (m : Nat) : Nat := m + m / 4294967296
def oc (m : Nat) : Nat := o6 (o5 (o4 (o3 (o2 (o1 m))))) &&& 127

theorem oc_all : ((List.range 64).all fun a => (List.range 64).all fun b => oc (64 * a + b) == cbits (64 * a + b) 12) = true := by kernel_rfl
theorem oc_eq {m : Nat} (h : m < 4096) : oc m = cbits m 12 := by
  have h1 := List.all_eq_true.1 oc_all (m / 64) (List.mem_range.2 (by omega))
  have h2 := List.all_eq_true.1 h1 (m % 64) (List.mem_range.2 (by omega))
  rw [show 64 * (m / 64) + m % 64 = m from by omega] at h2
  simpa using h2

theorem u64and {a b : Nat} (ha : a < 18446744073709551616) (hb : b < 18446744073709551616) : bAnd .u64 a b = ((a &&& b : Nat) : Int) := by
  unfold bAnd
  have e : ∀ m : Nat, BitVec.ofInt (IntKind.u64.bits) (m : Int) = BitVec.ofNat 64 m := fun m => by show BitVec.ofInt 64 (m : Int) = _; exact BitVec.ofInt_ofNat 64 m
  rw [e, e]
  have h1 : (BitVec.ofNat 64 a &&& BitVec.ofNat 64 b).toNat = a &&& b := by
    rw [BitVec.toNat_and, BitVec.toNat_ofNat, BitVec.toNat_ofNat, Nat.mod_eq_of_lt (by omega), Nat.mod_eq_of_lt (by omega)]
  show IntKind.u64.wrap ((BitVec.ofNat 64 a &&& BitVec.ofNat 64 b).toNat : Int) = _
  rw [h1]
  have : a &&& b ≤ a := Nat.and_le_left
  exact IntWalk.u64_in _ (by omega)
theorem u64shr (m s : Nat) (hs : s ≤ 64) : ((m : Int)).fdiv (2 ^ min ((s : Int)).toNat IntKind.u64.bits) = ((m / 2 ^ s : Nat) : Int) := by
  have h64 : IntKind.u64.bits = 64 := rfl
  rw [h64, Int.toNat_natCast, Nat.min_eq_left hs, Int.fdiv_eq_ediv_of_nonneg _ (by exact Int.pow_nonneg (by omega))]
  simp
theorem u64add {a b : Nat} (h : a + b < 18446744073709551616) : IntKind.u64.wrap ((a : Int) + (b : Int)) = ((a + b : Nat) : Int) := by
  rw [IntWalk.u64_in _ (by omega)]; omega
theorem o1_le (m : Nat) : o1 m ≤ 12297829382473034410 := by
  have h1 : m / 2 &&& 6148914691236517205 ≤ 6148914691236517205 := Nat.and_le_right
  have h2 : m &&& 6148914691236517205 ≤ 6148914691236517205 := Nat.and_le_right
  unfold o1; omega
theorem o2_le (m : Nat) : o2 m ≤ 7378697629483820646 := by
  have h1 : m / 4 &&& 3689348814741910323 ≤ 3689348814741910323 := Nat.and_le_right
  have h2 : m &&& 3689348814741910323 ≤ 3689348814741910323 := Nat.and_le_right
  unfold o2; omega
theorem o3_le (m : Nat) : o3 m ≤ 1085102592571150095 := Nat.and_le_right
theorem shl_one {n : Nat} (h : n ≤ 12) : IntKind.i64.wrap (1 * 2 ^ min ((n : Int)).toNat IntKind.i64.bits) = ((2 ^ n : Nat) : Int) := by
  have h64 : IntKind.i64.bits = 64 := rfl
  rw [h64, Int.toNat_natCast, Nat.min_eq_left (by omega), Int.one_mul]
  have : (2 ^ n : Nat) ≤ 2 ^ 12 := Nat.pow_le_pow_right (by omega) h
  rw [show ((2 : Int) ^ n) = ((2 ^ n : Nat) : Int) from by simp]
  generalize (2 ^ n : Nat) = q at this ⊢
  exact IntWalk.i64_in _ (by omega)
theorem pow_cbits_le (m j : Nat) (h : j ≤ 12) : 2 ^ cbits m j ≤ 4096 := by
  have := cbits_le m j
  have : 2 ^ cbits m j ≤ 2 ^ 12 := Nat.pow_le_pow_right (by omega) (by omega)
  simpa using this
end B
end Go.Proofs.Ytgfaimkbedbanaa
