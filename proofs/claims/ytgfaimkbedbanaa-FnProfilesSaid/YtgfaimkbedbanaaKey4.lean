/-
  Blanks and keyways: what the laws say of them.
-/
import Derived.Test.YtgfaimkbedbanaaKey2
import Derived.Test.YtgfaimkbedbanaaKey3
namespace Go.Proofs.Ytgfaimkbedbanaa
namespace B
open Go.RowKit

theorem bAnd_prof {a b : Int} (ha : prof a) (hb : prof b) : bAnd .i64 a b = ((a.toNat &&& b.toNat : Nat) : Int) := by
  obtain ⟨m, rfl, hm⟩ := prof_cast ha
  obtain ⟨n, rfl, hn⟩ := prof_cast hb
  exact bAnd_nat (by omega) (by omega)
theorem prof_and {a b : Int} (ha : prof a) (hb : prof b) : prof (bAnd .i64 a b) := by
  rw [bAnd_prof ha hb]
  have : a.toNat &&& b.toNat ≤ a.toNat := Nat.and_le_left
  unfold prof at *; omega
theorem ent_nat {a b : Int} (ha : prof a) (hb : prof b) : ent a b ↔ a.toNat &&& b.toNat = a.toNat := by
  unfold ent
  rw [bAnd_prof ha hb]
  unfold prof at ha
  omega
theorem ent_and {a b w : Int} (ha : prof a) (hb : prof b) (hw : prof w) (h : ent a w) : ent (bAnd .i64 a b) w := by
  rw [ent_nat (prof_and ha hb) hw, bAnd_prof ha hb, Int.toNat_natCast]
  rw [ent_nat ha hw] at h
  rw [Nat.and_assoc, Nat.and_comm b.toNat, ← Nat.and_assoc, h]
theorem ent_and2 {a w : Int} (ha : prof a) (hw : prof w) : ent (bAnd .i64 a w) w := by
  rw [ent_nat (prof_and ha hw) hw, bAnd_prof ha hw, Int.toNat_natCast, Nat.and_assoc, Nat.and_self]
theorem common_facts {ws : List Int} (h : waysOk ws) : ∀ k, k ≤ ws.length → prof (commonTo ws k) ∧ ∀ i (hi : i < ws.length), i < k → ent (commonTo ws k) ws[i]
  | 0, _ => ⟨by unfold prof commonTo; simp, fun i hi h0 => by omega⟩
  | k + 1, hk => by
    obtain ⟨h1, h2⟩ := common_facts h k (by omega)
    have hw := waysOk_at h (show k < ws.length by omega)
    rw [commonTo_succ (by omega)]
    refine ⟨prof_and h1 hw, fun i hi hik => ?_⟩
    by_cases e : i = k
    · subst e; exact ent_and2 h1 hw
    · exact ent_and h1 hw (waysOk_at h hi) (h2 i hi (by omega))
theorem ceC_zero {ws wa : List Int} (h : ceC ws wa = 0) : xOk ws wa := Classical.byContradiction fun hh => by unfold ceC at h; rw [if_neg hh] at h; omega
theorem blank_common {ws wa : List Int} {i : Nat} (h : ceC ws wa = 0) (hi : i < ws.length) : ewC (cwV ws) ws[i] = 0 ∧ ewB (cwV ws) ws[i] = true := by
  have hw := (ceC_zero h).1
  have hc : cwV ws = commonTo ws ws.length := by unfold cwV; rw [if_pos hw]
  obtain ⟨h1, h2⟩ := common_facts hw ws.length (Nat.le_refl _)
  rw [hc]
  exact ⟨by unfold ewC; rw [if_pos ⟨h1, waysOk_at hw hi⟩], decide_eq_true ⟨h1, waysOk_at hw hi, h2 i hi hi⟩⟩
theorem blank_count {ws wa : List Int} (h : ceC ws wa = 0) : 0 < ceV ws wa ↔ ebC ws wa = 0 := by
  have hx := ceC_zero h
  unfold ceV ebC
  rw [if_pos hx, if_pos hx]
  split
  · rename_i h0; rw [h0]; constructor <;> intro h5 <;> omega
  · rename_i h0; exact ⟨fun _ => rfl, fun _ => by omega⟩
theorem blank_least {ws wa : List Int} (h : ebC ws wa = 0) : woC (ebV ws wa) ws = 0 ∧ woL (ebV ws wa) ws = wa := by
  have hx : xOk ws wa := Classical.byContradiction fun hh => by unfold ebC at h; rw [if_neg hh] at h; omega
  have hl : (xL ws wa).length ≠ 0 := fun h0 => by unfold ebC at h; rw [if_pos hx, if_pos h0] at h; omega
  have hv : ebV ws wa = (xL ws wa)[0] := by unfold ebV; rw [if_pos ⟨hx, hl⟩]; exact lstF_first (by omega)
  have hm : (xL ws wa)[0] ∈ xL ws wa := List.getElem_mem _
  rw [← hv] at hm
  unfold xL at hm
  obtain ⟨b, hb, hp, e⟩ := mem_idxs.1 hm
  rw [K4_eq] at hb
  have hpr : prof (ebV ws wa) := by rw [e]; unfold prof; omega
  have hw : waysOf (b : Int) ws = wa := of_decide_eq_true hp
  exact ⟨by unfold woC; rw [if_pos ⟨hpr, hx.1⟩], by unfold woL; rw [if_pos ⟨hpr, hx.1⟩, e]; exact hw⟩

/-! ### Texts -/
theorem binv_ptx {p : Int} (hp : prof p) : (binv (ptx p 12) : Int) = p := by
  obtain ⟨m, rfl, hm⟩ := prof_cast hp
  have hl := ptx_len (m : Int) 12
  have hlt : binv (ptx (m : Int) 12) < 2 ^ 12 := by
    have := binv_lt (l := ptx (m : Int) 12) 12 (by omega)
    rwa [List.take_of_length_le (by omega)] at this
  have : binv (ptx (m : Int) 12) = m := by
    apply Nat.eq_of_testBit_eq
    intro i
    by_cases hi : i < 12
    · have h1 := binv_bit (l := ptx (m : Int) 12) 12 (by omega) (11 - i) (by omega)
      rw [List.take_of_length_le (by omega), show 12 - 1 - (11 - i) = i from by omega] at h1
      have h2 := ptx_at (m : Int) (i := 11 - i) (by omega)
      rw [List.getElem?_eq_getElem (by omega)] at h2
      have h3 := Option.some.inj h2
      rw [h1, h3, show (11 - ((11 - i : Nat) : Int)) = (i : Int) from by omega]
      have h4 := pbit_nat (m := m) (b := i) hm (by omega)
      by_cases hb : m.testBit i = true
      · rw [if_pos (h4.2 hb), hb]; simp
      · rw [if_neg (fun hh => hb (h4.1 hh))]
        have : m.testBit i = false := by simpa using hb
        rw [this]; decide
    · rw [Nat.testBit_lt_two_pow (Nat.lt_of_lt_of_le hlt (Nat.pow_le_pow_right (by omega) (by omega))), Nat.testBit_lt_two_pow (Nat.lt_of_lt_of_le (show m < 2 ^ 12 by omega) (Nat.pow_le_pow_right (by omega) (by omega)))]
  rw [this]
theorem text_back {p : Int} (h : ptC p = 0) : rpC (ptL p) = 0 ∧ rpV (ptL p) = p := by
  have hp : prof p := Classical.byContradiction fun hh => by unfold ptC at h; rw [if_neg hh] at h; omega
  have hL : ptL p = ptx p 12 := by unfold ptL; rw [if_pos hp]
  have hok : ptOk (ptx p 12) := ptx_ok rfl
  rw [hL]
  exact ⟨by unfold rpC; rw [if_pos hok], by unfold rpV; rw [if_pos hok]; exact binv_ptx hp⟩
theorem less_ways {b x : Int} {ws : List Int} (h : woC b ws = 0) (hx : prof x) : woC (bAnd .i64 b x) ws = 0 ∧ ∀ y ∈ woL b ws, y ∈ woL (bAnd .i64 b x) ws := by
  have hb : prof b ∧ waysOk ws := Classical.byContradiction fun hh => by unfold woC at h; rw [if_neg hh] at h; omega
  have hl := prof_and hb.1 hx
  refine ⟨by unfold woC; rw [if_pos ⟨hl, hb.2⟩], fun y hy => ?_⟩
  unfold woL at hy ⊢
  rw [if_pos hb] at hy
  rw [if_pos ⟨hl, hb.2⟩]
  unfold waysOf at hy ⊢
  obtain ⟨i, hi, hp, rfl⟩ := mem_idxs.1 hy
  refine mem_idxs.2 ⟨i, hi, ?_, rfl⟩
  unfold entAt at hp ⊢
  rw [getD_lt hi] at hp ⊢
  exact decide_eq_true (ent_and hb.1 hx (waysOk_at hb.2 hi) (of_decide_eq_true hp))
theorem dec_bne {p q : Prop} [Decidable p] [Decidable q] (h : p ↔ q) : (decide p != decide q) = false := by
  by_cases hp : p <;> simp [hp, ← h]
theorem ptL_len (p : Int) : (ptL p).length ≤ 12 := by
  unfold ptL; split
  · rw [ptx_len]; omega
  · simp
end B
end Go.Proofs.Ytgfaimkbedbanaa
