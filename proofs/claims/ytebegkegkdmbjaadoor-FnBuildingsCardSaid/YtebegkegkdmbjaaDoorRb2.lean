/-
  What a text's words say of a building.
-/
import Derived.Test.YtebegkegkdmbjaaDoorRb
namespace Go.Proofs.YtebegkegkdmbjaaDoor
namespace B
open Go.RowKit

theorem join_spl : ∀ s : List UInt8, Lib.join (spl s) [32] = s
  | [] => by simp [spl, Lib.join_one]
  | c :: r => by
    have ih := join_spl r
    cases hr : spl r with
    | nil => exact absurd hr (spl_ne r)
    | cons w ws =>
      rw [hr] at ih
      by_cases h : c = 32
      · subst h
        rw [spl_blank, hr, Lib.join_cons]
        rw [Lib.join_cons] at ih
        simp only [Lib.joinTail, List.map_cons, List.flatten_cons, List.nil_append, List.cons_append] at ih ⊢
        rw [ih]
      · rw [spl_other h hr, Lib.join_cons]
        rw [Lib.join_cons] at ih
        rw [List.cons_append, ih]
theorem word_parts {x : List UInt8} {p : Int} {d : Bool} (h : x = word p d) : 2 ≤ x.length ∧ x.take (x.length - 1) = Lib.itoa p ∧ x[x.length - 1]? = some (if d = true then 100 else 103) := by
  subst h
  have hn := itoa_ne p
  have h1 : 1 ≤ (Lib.itoa p).length := by
    cases hl : Lib.itoa p with
    | nil => exact absurd hl hn
    | cons a b => simp
  have hl : (word p d).length = (Lib.itoa p).length + 1 := by simp [word]
  refine ⟨by omega, ?_, ?_⟩
  · rw [hl]; simp [word]
  · rw [hl]; simp [word]
theorem word_of {x : List UInt8} {v : Int} {c : UInt8} (h0 : 0 < x.length) (h1 : x.take (x.length - 1) = Lib.itoa v) (h2 : x[x.length - 1]? = some c) : x = Lib.itoa v ++ [c] := by
  have e : x = x.take (x.length - 1) ++ x.drop (x.length - 1) := (List.take_append_drop ..).symm
  have hlt : x.length - 1 < x.length := by omega
  rw [h1] at e
  conv => lhs; rw [e]
  congr 1
  rw [List.drop_eq_getElem_cons hlt, show x.length - 1 + 1 = x.length from by omega, List.drop_length]
  rw [List.getElem?_eq_getElem hlt] at h2
  rw [Option.some.inj h2]
theorem no_word {s : List UInt8} {k : Nat} {x : List UInt8} (hk : (spl s)[k]? = some x) (h : ∀ p d, 0 ≤ p → p ≤ 22 → x ≠ word p d) : ∀ ps ds, ¬ Rb s ps ds := fun ps ds hr => by
  have hs := hr.spl
  have hlt := (List.getElem?_eq_some_iff.1 hk).1
  have hwl := wds_len ps ds ps.length
  rw [← hs] at hwl
  have h1 := wds_at ps ds ps.length k (by omega)
  rw [← hs, hk] at h1
  have hp := bld_par hr.1 (i := k + 1) (by omega)
  exact h _ _ (hp.2.2 (by omega)) hp.2.1 (Option.some.inj h1)
/-- The words so far are numerals and a byte each. -/
def Tw (W : List (List UInt8)) (vs : List Int) (bs : List Bool) (k : Nat) : Prop := ∀ i, i < k → ∃ c : UInt8, W.getD i [] = Lib.itoa (vs.getD i 0) ++ [c] ∧ bs.getD i false = decide (c.toNat = 100)
theorem Tw.zero (W : List (List UInt8)) (vs : List Int) (bs : List Bool) : Tw W vs bs 0 := fun i h => absurd h (Nat.not_lt_zero i)
theorem Tw.succ {W : List (List UInt8)} {vs : List Int} {bs : List Bool} {k : Nat} {v : Int} {c : UInt8} (h : Tw W vs bs k) (hv : vs.length = k) (hb : bs.length = k) (hx : W.getD k [] = Lib.itoa v ++ [c]) : Tw W (vs ++ [v]) (bs ++ [decide (c.toNat = 100)]) (k + 1) := fun i hi => by
  by_cases e : i < k
  · obtain ⟨c', h1, h2⟩ := h i e
    have e1 : (vs ++ [v]).getD i 0 = vs.getD i 0 := by simp [List.getD, List.getElem?_append_left (show i < vs.length by omega)]
    have e2 : (bs ++ [decide (c.toNat = 100)]).getD i false = bs.getD i false := by simp [List.getD, List.getElem?_append_left (show i < bs.length by omega)]
    exact ⟨c', by rw [e1]; exact h1, by rw [e2]; exact h2⟩
  · have : i = k := by omega
    subst this
    have e1 : (vs ++ [v]).getD i 0 = v := by subst hv; simp [List.getD]
    have e2 : (bs ++ [decide (c.toNat = 100)]).getD i false = decide (c.toNat = 100) := by subst hb; simp [List.getD]
    exact ⟨c, by rw [e1]; exact hx, e2⟩
theorem rb_tw {s : List UInt8} {ps : List Int} {ds : List Bool} {vs : List Int} {bs : List Bool} (h : Rb s ps ds) (ht : Tw (spl s) vs bs (spl s).length) (hv : vs.length = (spl s).length) (hb : bs.length = (spl s).length) : ps = -1 :: vs ∧ ds = false :: bs := by
  obtain ⟨⟨⟨a1, a2⟩, a3, a4, a5⟩, _⟩ := h.1
  have hs := h.spl
  have hwl := wds_len ps ds ps.length
  rw [← hs] at hwl
  have hw : ∀ i, i + 1 < ps.length → par ps (i + 1) = vs.getD i 0 ∧ isD ds (i + 1) = bs.getD i false := fun i hi => by
    obtain ⟨c, h1, h2⟩ := ht i (by omega)
    have h3 := wds_at ps ds ps.length i hi
    rw [← hs] at h3
    have h4 : (spl s).getD i [] = word (par ps (i + 1)) (isD ds (i + 1)) := by simp [List.getD, h3]
    rw [h1] at h4
    unfold word at h4
    obtain ⟨h5, h6⟩ := List.append_inj' h4 rfl
    refine ⟨(itoa_inj h5).symm, ?_⟩
    rw [h2]
    obtain rfl : c = if isD ds (i + 1) = true then 100 else 103 := by simpa using h6
    cases isD ds (i + 1) <;> rfl
  refine ⟨list_ext (x := 0) (by simp; omega) (fun i hi => ?_), list_ext (x := false) (by simp; omega) (fun i hi => ?_)⟩
  · cases i with
    | zero => exact a4
    | succ i => exact (hw i hi).1
  · cases i with
    | zero => exact a5
    | succ i => exact (hw i (by omega)).2
theorem told_succ {vs : List Int} {bs : List Bool} {k : Nat} {v : Int} {b : Bool} (hv : vs.length = k) (hb : bs.length = k) : told (vs ++ [v]) (bs ++ [b]) (k + 1) = told vs bs k ++ [word v b] := by
  unfold told
  rw [List.range_succ, List.map_append]
  congr 1
  · refine List.map_congr_left (fun i hi => ?_)
    have hi := List.mem_range.1 hi
    have e1 : (vs ++ [v]).getD i 0 = vs.getD i 0 := by simp [List.getD, List.getElem?_append_left (show i < vs.length by omega)]
    have e2 : (bs ++ [b]).getD i false = bs.getD i false := by simp [List.getD, List.getElem?_append_left (show i < bs.length by omega)]
    rw [e1, e2]
  · subst hv
    have e2 : (bs ++ [b]).getD vs.length false = b := by rw [← hb]; simp [List.getD]
    simp [List.getD] at e2 ⊢
    rw [e2]
theorem told_len (vs : List Int) (bs : List Bool) (k : Nat) : (told vs bs k).length = k := by simp [told]
theorem told_tw {s : List UInt8} {vs : List Int} {bs : List Bool} (h : spl s = told vs bs (spl s).length) : Tw (spl s) vs bs (spl s).length := fun i hi => by
  refine ⟨if bs.getD i false = true then 100 else 103, ?_, ?_⟩
  · rw [h, getD_lt (by rw [told_len]; exact hi)]
    unfold told
    rw [List.getElem_map, List.getElem_range]
    rfl
  · cases bs.getD i false <;> rfl
theorem told_yes {s : List UInt8} {vs : List Int} {bs : List Bool} (h : spl s = told vs bs (spl s).length) (hv : vs.length = (spl s).length) (hb : bld (-1 :: vs) (false :: bs)) : Rb s (-1 :: vs) (false :: bs) := by
  refine ⟨hb, ?_⟩
  unfold btx
  rw [List.length_cons, told_wds, hv, ← h, join_spl]
end B
end Go.Proofs.YtebegkegkdmbjaaDoor
