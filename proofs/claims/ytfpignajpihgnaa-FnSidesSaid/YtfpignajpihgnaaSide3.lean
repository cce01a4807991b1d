/-
  Families of side codes: what the laws say of them.
-/
import Derived.Test.YtfpignajpihgnaaSide2
namespace Go.Proofs.Ytfpignajpihgnaa
namespace B
open Go.RowKit

/-! ### Digits -/
theorem sufD_at {v n : Nat} : ∀ {k i : Nat}, i < k → (sufD v n k).getD i 0 = ((quoN v n (k - 1 - i) % v : Nat) : Int)
  | 0, i, h => by omega
  | k + 1, 0, _ => by simp [sufD]
  | k + 1, i + 1, h => by
    have := sufD_at (v := v) (n := n) (k := k) (i := i) (by omega)
    rw [show k + 1 - 1 - (i + 1) = k - 1 - i from by omega]
    simpa [sufD] using this
theorem sufD_congr {v n m : Nat} : ∀ k, (∀ j, j < k → quoN v n j % v = quoN v m j % v) → sufD v n k = sufD v m k
  | 0, _ => rfl
  | k + 1, h => by
    simp only [sufD]
    rw [h k (by omega), sufD_congr k (fun j hj => h j (by omega))]
theorem dig_all {s v : Nat} (hv : 0 < v) : ∀ (xs : List Int), xs.length = s → (∀ x ∈ xs, 0 ≤ x ∧ x ≤ (v : Int) - 1) → ∃ n, n < v ^ s ∧ xs = sufD v n s := by
  intro xs
  induction xs generalizing s with
  | nil => intro h _; subst h; exact ⟨0, by simp, rfl⟩
  | cons x xs ih =>
    intro h hx
    obtain ⟨s, rfl⟩ : ∃ t, s = t + 1 := ⟨xs.length, by simpa using h.symm⟩
    obtain ⟨n, hn, hxs⟩ := ih (s := s) (by simpa using h) (fun y hy => hx y (by simp [hy]))
    have hx0 := hx x (by simp)
    have hpos : 0 < v ^ s := Nat.pow_pos hv
    have hxv : x.toNat < v := by omega
    refine ⟨n + v ^ s * x.toNat, ?_, ?_⟩
    · rw [Nat.pow_succ]
      have : v ^ s * (x.toNat + 1) ≤ v ^ s * v := Nat.mul_le_mul_left _ (by omega)
      rw [Nat.mul_succ] at this; omega
    · simp only [sufD]
      have h1 : quoN v (n + v ^ s * x.toNat) s = x.toNat := by
        rw [quoN_lt hv, Nat.add_mul_div_left _ _ hpos, Nat.div_eq_of_lt hn, Nat.zero_add]
      rw [h1, Nat.mod_eq_of_lt hxv, show ((x.toNat : Nat) : Int) = x from by omega, hxs]
      congr 1
      refine sufD_congr s (fun j hj => ?_)
      rw [quoN_lt hv, quoN_lt hv]
      obtain ⟨e, rfl⟩ : ∃ e, s = j + 1 + e := ⟨s - (j + 1), by omega⟩
      rw [show v ^ (j + 1 + e) * x.toNat = v ^ j * (v * (v ^ e * x.toNat)) from by rw [Nat.pow_add, Nat.pow_add, Nat.pow_one]; simp only [Nat.mul_assoc], Nat.add_mul_div_left _ _ (Nat.pow_pos hv), Nat.add_mul_mod_self_left]

/-! ### Distances -/
theorem difTo_self (a : List Int) : ∀ k, difTo a a k = 0
  | 0 => rfl
  | k + 1 => by simp [difTo, difTo_self a k]
theorem dif_self (a : List Int) : dif a a = 0 := difTo_self a _
theorem difTo_add (a b : List Int) (k : Nat) : ∀ j, difTo a b (k + j) ≤ difTo a b k + j
  | 0 => Nat.le_refl _
  | j + 1 => by
    have := difTo_add a b k j
    rw [← Nat.add_assoc]
    simp only [difTo]; split <;> omega
theorem difTo_same {a b : List Int} : ∀ k, (∀ i, i < k → a.getD i 0 = b.getD i 0) → difTo a b k = 0
  | 0, _ => rfl
  | k + 1, h => by
    simp only [difTo]
    rw [difTo_same k (fun i hi => h i (by omega)), if_pos (h k (by omega))]
/-- Codes whose numbers have the same quotient differ in few places. -/
theorem dif_block {s v m n e : Nat} (hv : 0 < v) (he : e ≤ s) (h : m / v ^ e = n / v ^ e) : dif (dig s v m) (dig s v n) ≤ e := by
  unfold dif
  rw [dig_len]
  have h1 : difTo (dig s v m) (dig s v n) (s - e) = 0 := difTo_same _ (fun i hi => by
    unfold dig
    rw [sufD_at (by omega), sufD_at (by omega), quoN_lt hv, quoN_lt hv]
    obtain ⟨f, hf⟩ : ∃ f, s - 1 - i = e + f := ⟨s - 1 - i - e, by omega⟩
    rw [hf, Nat.pow_add, ← Nat.div_div_eq_div_mul, ← Nat.div_div_eq_div_mul, h])
  have h2 := difTo_add (dig s v m) (dig s v n) (s - e) e
  rw [show s - e + e = s from by omega, h1] at h2
  omega

/-! ### Families -/
theorem famTo_apart (s v : Nat) (d : Int) : ∀ n, apartTo (famTo s v d n) d (famTo s v d n).length
  | 0 => fun i hi => by simp [famTo] at hi
  | n + 1 => by
    have ih := famTo_apart s v d n
    by_cases h : apart (famTo s v d n) (dig s v n) d
    · rw [famTo_yes h]
      intro i hi
      by_cases e : i < (famTo s v d n).length
      · have h1 := ih i e
        rw [List.take_append_of_le_length (Nat.le_of_lt e)]
        have : (famTo s v d n ++ [dig s v n]).getD i [] = (famTo s v d n).getD i [] := by simp [List.getD, List.getElem?_append_left e]
        rw [this]; exact h1
      · have e2 : i = (famTo s v d n).length := by simp at hi; omega
        subst e2
        have : (famTo s v d n ++ [dig s v n]).getD (famTo s v d n).length [] = dig s v n := by simp [List.getD]
        rw [this, List.take_left]; exact h
    · rw [famTo_no h]; exact ih
theorem apartTo_take {rs : List (List Int)} {d : Int} (h : apartTo rs d rs.length) (m : Nat) : apartTo (rs.take m) d (rs.take m).length := by
  intro i hi
  rw [List.length_take] at hi
  have h1 := h i (by omega)
  have e1 : (rs.take m).take i = rs.take i := by rw [List.take_take, Nat.min_eq_left (by omega)]
  have e2 : (rs.take m).getD i [] = rs.getD i [] := by simp [List.getD, List.getElem?_take, show i < m by omega]
  rw [e1, e2]; exact h1
theorem fams_code {s v : Nat} {d : Int} {r : List Int} (hv : 0 < v) (h : r ∈ fams s v d) : code (s : Int) (v : Int) r := by
  rw [fams_eq] at h
  obtain ⟨m, _, rfl⟩ := famTo_mem _ r h
  exact dig_code hv
theorem famTo_one {s v : Nat} (hv : 0 < v) : ∀ n, n ≤ v ^ s → (famTo s v 1 n).length = n
  | 0, _ => rfl
  | n + 1, h => by
    rw [famTo_yes (apart_one hv (by omega)), List.length_append, famTo_one hv n (by omega)]; rfl
theorem famTo_bound {s v e : Nat} {d : Int} (hv : 0 < v) (he : e ≤ s) (hd : d = (e : Int) + 1) : ∀ n, (famTo s v d n).length ≤ n / v ^ e + 1 ∧ ((famTo s v d n).length = n / v ^ e + 1 → ∃ m, m < n ∧ m / v ^ e = n / v ^ e ∧ dig s v m ∈ famTo s v d n)
  | 0 => ⟨by simp [famTo], fun h => by simp [famTo] at h⟩
  | n + 1 => by
    obtain ⟨ih1, ih2⟩ := famTo_bound hv he hd n
    have hpos : 0 < v ^ e := Nat.pow_pos hv
    have hstep : (n + 1) / v ^ e = n / v ^ e ∨ (n + 1) / v ^ e = n / v ^ e + 1 := by
      have h1 : n / v ^ e ≤ (n + 1) / v ^ e := Nat.div_le_div_right (by omega)
      have h2 : (n + 1) / v ^ e ≤ (n + v ^ e) / v ^ e := Nat.div_le_div_right (by omega)
      rw [Nat.add_div_right _ hpos] at h2
      omega
    by_cases h : apart (famTo s v d n) (dig s v n) d
    · have hlt : (famTo s v d n).length ≤ n / v ^ e := by
        rcases Nat.lt_or_ge (n / v ^ e) (famTo s v d n).length with h1 | h1
        · obtain ⟨m, hm1, hm2, hm3⟩ := ih2 (by omega)
          have h3 := h _ hm3
          have h4 := dif_block (s := s) hv he hm2
          omega
        · exact h1
      rw [famTo_yes h, List.length_append, List.length_singleton]
      refine ⟨by omega, fun h5 => ⟨n, by omega, by omega, by simp⟩⟩
    · rw [famTo_no h]
      refine ⟨by omega, fun h5 => ?_⟩
      have h6 : (n + 1) / v ^ e = n / v ^ e := by omega
      obtain ⟨m, hm1, hm2, hm3⟩ := ih2 (by omega)
      exact ⟨m, by omega, by omega, hm3⟩
theorem fams_bound {s v e : Nat} {d : Int} (hv : 0 < v) (he : e ≤ s) (hd : d = (e : Int) + 1) : (fams s v d).length ≤ v ^ (s - e) := by
  rw [fams_eq]
  have hpos : 0 < v ^ e := Nat.pow_pos hv
  have hN : v ^ s = v ^ (s - e) * v ^ e := by rw [← Nat.pow_add]; congr 1; omega
  obtain ⟨h1, h2⟩ := famTo_bound (s := s) (d := d) hv he hd (v ^ s)
  have h3 : v ^ s / v ^ e = v ^ (s - e) := by rw [hN, Nat.mul_div_cancel _ hpos]
  rw [h3] at h1 h2
  rcases Nat.lt_or_ge (v ^ (s - e)) (famTo s v d (v ^ s)).length with h4 | h4
  · obtain ⟨m, hm1, hm2, _⟩ := h2 (by omega)
    rw [hN] at hm1
    have := Nat.div_lt_of_lt_mul (by rw [Nat.mul_comm]; exact hm1 : m < v ^ e * v ^ (s - e))
    omega
  · exact h4
/-- Each code is near to a family. -/
theorem fams_near {s v : Nat} {d : Int} {c : List Int} (hv : 0 < v) (hd : 1 ≤ d) (hc : code (s : Int) (v : Int) c) : ∃ r ∈ fams s v d, (dif r c : Int) < d := by
  obtain ⟨n, hn, rfl⟩ := dig_all (s := s) hv c (by have := hc.1; omega) hc.2
  have hsub : ∀ r ∈ famTo s v d (n + 1), r ∈ fams s v d := fun r hr => by
    rw [fams_eq]
    have := famTo_pre s v d (n + 1) (v ^ s - (n + 1))
    rw [show n + 1 + (v ^ s - (n + 1)) = v ^ s from by omega] at this
    rw [this] at hr
    exact List.mem_of_mem_take hr
  by_cases h : apart (famTo s v d n) (dig s v n) d
  · exact ⟨dig s v n, hsub _ (by rw [famTo_yes h]; simp), by show ((dif (dig s v n) (dig s v n) : Nat) : Int) < d; rw [dif_self]; omega⟩
  · have h2 : ∃ r ∈ famTo s v d n, ¬ d ≤ ((dif r (dig s v n) : Nat) : Int) := Classical.byContradiction fun hh => h (fun r hr => Classical.byContradiction fun h3 => hh ⟨r, hr, h3⟩)
    obtain ⟨r, hr, h3⟩ := h2
    exact ⟨r, hsub _ (by rw [famTo_no h]; exact hr), by show ((dif r (dig s v n) : Nat) : Int) < d; omega⟩
theorem nearTo_min {rs : List (List Int)} {c : List Int} : ∀ k j, j ≤ k → dif (nearTo rs c k) c ≤ dif (rs.getD j []) c
  | 0, j, h => by rw [show j = 0 from by omega]; exact Nat.le_refl _
  | k + 1, j, h => by
    have ih := nearTo_min (rs := rs) (c := c) k
    simp only [nearTo]
    by_cases e : j = k + 1
    · subst e; split <;> omega
    · have := ih j (by omega)
      split <;> omega
theorem near_min {rs : List (List Int)} {c r : List Int} (h : r ∈ rs) : dif (near rs c) c ≤ dif r c := by
  obtain ⟨i, hi, rfl⟩ := List.mem_iff_getElem.1 h
  have := nearTo_min (rs := rs) (c := c) (rs.length - 1) i (by omega)
  rw [getD_lt hi] at this
  exact this

/-! ### What the laws say -/
theorem fam_facts {s v d m : Int} (h : fmC s v d m = 0) : aaC s v d (fmV s v d m) = 0 ∧ aaV s v d (fmV s v d m) = true ∧ cfV s v d ≤ fbV s v d ∧ ((fmV s v d m).length : Int) = min m (cfV s v d) := by
  have hok : fmOk s v d m := Classical.byContradiction fun hh => by unfold fmC at h; rw [if_neg hh] at h; omega
  obtain ⟨hd, hm0, hm1⟩ := id hok
  have hs1 := hd.1.1
  have hs2 := hd.1.2
  obtain ⟨sn, rfl⟩ := Int.eq_ofNat_of_zero_le (show 0 ≤ s by omega)
  obtain ⟨vn, rfl⟩ := Int.eq_ofNat_of_zero_le (show 0 ≤ v by omega)
  have hv : 0 < vn := by omega
  have hV : fmV sn vn d m = (fams sn vn d).take m.toNat := by unfold fmV; rw [if_pos hok]; rfl
  have hcf : cfV sn vn d = ((fams sn vn d).length : Int) := by unfold cfV; rw [if_pos hd]; rfl
  have hcode : ∀ r ∈ fmV sn vn d m, code (sn : Int) (vn : Int) r := fun r hr => fams_code hv (List.mem_of_mem_take (by rw [hV] at hr; exact hr))
  have hlen : (fmV sn vn d m).length ≤ 60 := by rw [hV, List.length_take]; omega
  have hap : apartTo (fmV sn vn d m) d (fmV sn vn d m).length := by rw [hV]; refine apartTo_take ?_ _; rw [fams_eq]; exact famTo_apart _ _ _ _
  refine ⟨by unfold aaC; rw [if_pos hd, if_pos hcode, if_pos hlen], decide_eq_true ⟨hd, hcode, hlen, hap⟩, ?_, ?_⟩
  · unfold fbV
    rw [if_pos hd, hcf, pw_nat]
    have hb := fams_bound (s := sn) (v := vn) (e := (d - 1).toNat) (d := d) hv (by have := hd.2; omega) (by have := hd.2; omega)
    rw [show ((sn : Int) - d + 1).toNat = sn - (d - 1).toNat from by have := hd.2; omega]
    omega
  · rw [hV, List.length_take, hcf]; omega
theorem near_facts {s v d : Int} {xs : List Int} (h : scC s v d [xs] = 0) : sdC s v (nfV s v d xs) xs = 0 ∧ sdV s v (nfV s v d xs) xs < d ∧ (sdsys s v ∧ code s v (nfV s v d xs)) := by
  obtain ⟨hd, hc0⟩ := scC_zero.1 h
  have hc := hc0 xs (by simp)
  have hs1 := hd.1.1
  have hs2 := hd.1.2
  obtain ⟨sn, rfl⟩ := Int.eq_ofNat_of_zero_le (show 0 ≤ s by omega)
  obtain ⟨vn, rfl⟩ := Int.eq_ofNat_of_zero_le (show 0 ≤ v by omega)
  have hv : 0 < vn := by omega
  have hN : nfV sn vn d xs = near (fams sn vn d) xs := by unfold nfV; rw [if_pos ⟨hd, hc⟩]; rfl
  have hmem := near_mem (c := xs) (fams_pos (s := sn) (v := vn) (d := d) hv)
  have hcn : code (sn : Int) (vn : Int) (nfV sn vn d xs) := by rw [hN]; exact fams_code hv hmem
  refine ⟨by unfold sdC; rw [if_pos hd.1, if_pos ⟨hcn, hc⟩], ?_, hd.1, hcn⟩
  unfold sdV
  rw [if_pos ⟨hd.1, hcn, hc⟩, hN]
  obtain ⟨r, hr, hlt⟩ := fams_near (d := d) hv hd.2.1 hc
  have := near_min (c := xs) hr
  omega
theorem count_facts {s v : Int} (h : csC s v = 0) : fbC s v 1 = 0 ∧ cfV s v 1 = csV s v := by
  have hs : sdsys s v := Classical.byContradiction fun hh => by unfold csC at h; rw [if_neg hh] at h; omega
  have hs1 := hs.1
  have hs2 := hs.2
  have hd : dis s v 1 := ⟨hs, by omega, hs1.1⟩
  obtain ⟨sn, rfl⟩ := Int.eq_ofNat_of_zero_le (show 0 ≤ s by omega)
  obtain ⟨vn, rfl⟩ := Int.eq_ofNat_of_zero_le (show 0 ≤ v by omega)
  refine ⟨by unfold fbC; rw [if_pos hd], ?_⟩
  unfold cfV csV
  rw [if_pos hd, if_pos hs, fams_eq, Int.toNat_natCast, Int.toNat_natCast, famTo_one (by omega) _ (Nat.le_refl _), pw_nat]
theorem dist_facts {s v : Int} {a b : List Int} (h : sdC s v a b = 0) : sdC s v b a = 0 ∧ sdV s v b a = sdV s v a b ∧ (sdV s v a b = 0 ↔ a = b) := by
  obtain ⟨hs, ha, hb⟩ := sdC_zero h
  have hl : a.length = b.length := by have := ha.1; have := hb.1; omega
  refine ⟨by unfold sdC; rw [if_pos hs, if_pos ⟨hb, ha⟩], by unfold sdV; rw [if_pos ⟨hs, hb, ha⟩, if_pos ⟨hs, ha, hb⟩, dif_comm hl], ?_⟩
  unfold sdV
  rw [if_pos ⟨hs, ha, hb⟩]
  constructor
  · intro h0; exact dif_zero hl (by omega)
  · rintro rfl; rw [dif_self]; rfl
end B
end Go.Proofs.Ytfpignajpihgnaa
