/-
  Reading texts: the parts of a text, numerals, buildings.
-/
import Derived.Test.YtebegkegkdmbjaaDoorTxt
import Derived.Lib.ParseIntBTie
import Derived.Lib.ParseIntBCases
import Derived.Lib.SplitLaws
namespace Go.Proofs.YtebegkegkdmbjaaDoor
namespace B
open Go.RowKit

/-! ### The parts of a text between blanks -/
def spl : List UInt8 → List (List UInt8)
  | [] => [[]]
  | c :: r => if c = 32 then [] :: spl r else (match spl r with | [] => [[c]] | w :: ws => (c :: w) :: ws)
theorem spl_blank (r : List UInt8) : spl (32 :: r) = [] :: spl r := by
  conv => lhs; unfold spl
  rw [if_pos rfl]
theorem spl_other {c : UInt8} {r w : List UInt8} {ws : List (List UInt8)} (h : c ≠ 32) (hr : spl r = w :: ws) : spl (c :: r) = (c :: w) :: ws := by
  conv => lhs; unfold spl
  rw [if_neg h, hr]
theorem spl_free : ∀ (x : List UInt8), 32 ∉ x → spl x = [x]
  | [], _ => rfl
  | c :: x, h => spl_other (fun e => h (by rw [e]; exact List.mem_cons_self ..)) (spl_free x (fun hh => h (List.mem_cons_of_mem _ hh)))
theorem spl_cons : ∀ (x t : List UInt8), 32 ∉ x → spl (x ++ 32 :: t) = x :: spl t
  | [], t, _ => spl_blank t
  | c :: x, t, h => spl_other (fun e => h (by rw [e]; exact List.mem_cons_self ..)) (spl_cons x t (fun hh => h (List.mem_cons_of_mem _ hh)))
theorem spl_join : ∀ (W : List (List UInt8)), W ≠ [] → (∀ x ∈ W, 32 ∉ x) → spl (Lib.join W [32]) = W
  | [], h, _ => absurd rfl h
  | [x], _, hf => by rw [Lib.join_one]; exact spl_free x (hf x (List.mem_cons_self ..))
  | x :: y :: r, _, hf => by
    have e : Lib.join (x :: y :: r) [32] = x ++ 32 :: Lib.join (y :: r) [32] := by
      rw [Lib.join_cons, Lib.join_cons]; simp [Lib.joinTail]
    rw [e, spl_cons x _ (hf x (List.mem_cons_self ..)), spl_join (y :: r) (by simp) (fun z hz => hf z (List.mem_cons_of_mem _ hz))]
theorem splitK_spl : ∀ (l : List UInt8), Lib.splitK [32] 0 (l.count 32) l = spl l
  | [] => rfl
  | b :: t => by
    have ih := splitK_spl t
    by_cases hb : b = 32
    · subst hb
      have hix : Lib.index ((32 : UInt8) :: t) [32] = 0 := by rw [Lib.index]; simp [List.isPrefixOf]
      rw [spl_blank, List.count_cons_self]
      unfold Lib.splitK
      rw [hix, if_neg (by decide)]
      simp only [Int.toNat_zero, Nat.zero_add, List.take_zero]
      rw [← ih]; rfl
    · have hp : ([32] : List UInt8).isPrefixOf (b :: t) = false := by simp [List.isPrefixOf, Ne.symm hb]
      have hix : Lib.index (b :: t) [32] = if Lib.index t [32] == -1 then -1 else Lib.index t [32] + 1 := by rw [Lib.index, hp]; simp
      rw [List.count_cons_of_ne (by simpa using hb)]
      cases hk : t.count 32 with
      | zero =>
        rw [hk] at ih
        exact (spl_other hb ih.symm).symm
      | succ k =>
        rw [hk] at ih
        have hm : Lib.index t [32] ≠ -1 := fun e => by
          have := Lib.count_miss e
          rw [Lib.count_one] at this
          omega
        have hge := Lib.index_ge t [32]
        obtain ⟨j, hj⟩ : ∃ j : Nat, Lib.index t [32] = j := ⟨(Lib.index t [32]).toNat, by omega⟩
        have hix' : Lib.index (b :: t) [32] = ((j + 1 : Nat) : Int) := by rw [hix, if_neg (fun e => hm (beq_iff_eq.1 e)), hj]; omega
        have e1 : Lib.splitK [32] 0 (k + 1) t = t.take j :: Lib.splitK [32] 0 k (t.drop (j + 1)) := by
          conv => lhs; unfold Lib.splitK
          rw [hj, if_neg (fun e => by have := beq_iff_eq.1 e; omega)]
          simp
        have e2 : Lib.splitK [32] 0 (k + 1) (b :: t) = (b :: t.take j) :: Lib.splitK [32] 0 k (t.drop (j + 1)) := by
          conv => lhs; unfold Lib.splitK
          rw [hix', if_neg (fun e => by have := beq_iff_eq.1 e; omega)]
          simp
        rw [e1] at ih
        rw [e2]
        exact (spl_other hb ih.symm).symm
theorem spl_ne (l : List UInt8) : spl l ≠ [] := by
  cases l with
  | nil => simp [spl]
  | cons c r =>
    unfold spl
    split
    · simp
    · split <;> simp
theorem spl_len : ∀ l : List UInt8, (spl l).length ≤ l.length + 1
  | [] => by simp [spl]
  | c :: r => by
    have ih := spl_len r
    unfold spl
    split
    · simp; omega
    · split
      · simp
      · rename_i w ws e
        rw [e] at ih
        simp at ih ⊢; omega
theorem spl_part : ∀ (l : List UInt8), ∀ x ∈ spl l, x.length ≤ l.length
  | [], x, h => by
    obtain rfl : x = [] := by simpa [spl] using h
    simp
  | c :: r, x, h => by
    unfold spl at h
    split at h
    · rcases List.mem_cons.1 h with rfl | h
      · simp
      · have := spl_part r x h; simp; omega
    · split at h
      · obtain rfl : x = [c] := by simpa using h
        simp
      · rename_i w ws e
        rcases List.mem_cons.1 h with rfl | h
        · have := spl_part r w (by rw [e]; exact List.mem_cons_self ..); simp; omega
        · have := spl_part r x (by rw [e]; exact List.mem_cons_of_mem _ h); simp; omega

/-! ### Numerals -/
theorem dd_dig : ∀ (n : Nat), ∀ c ∈ Lib.decDigits n, 48 ≤ c.toNat ∧ c.toNat ≤ 57 := fun n => by
  induction n using Nat.strongRecOn with
  | ind n ih =>
    intro c hc
    by_cases h : n < 10
    · rw [Lib.decDigits_one h] at hc
      obtain rfl : c = UInt8.ofNat (48 + n) := by simpa using hc
      have : (UInt8.ofNat (48 + n)).toNat = 48 + n := by rw [UInt8.toNat_ofNat']; exact Nat.mod_eq_of_lt (by omega)
      omega
    · rw [dec_step h] at hc
      rcases List.mem_append.1 hc with hc | hc
      · exact ih (n / 10) (by omega) c hc
      · obtain rfl : c = UInt8.ofNat (48 + n % 10) := by simpa using hc
        have : (UInt8.ofNat (48 + n % 10)).toNat = 48 + n % 10 := by rw [UInt8.toNat_ofNat']; exact Nat.mod_eq_of_lt (by omega)
        omega
def dval (l : List UInt8) : Nat := l.foldl (fun a c => 10 * a + (c.toNat - 48)) 0
theorem dval_snoc (l : List UInt8) (c : UInt8) : dval (l ++ [c]) = 10 * dval l + (c.toNat - 48) := by simp [dval, List.foldl_append]
theorem dval_dec : ∀ n : Nat, dval (Lib.decDigits n) = n := fun n => by
  induction n using Nat.strongRecOn with
  | ind n ih =>
    by_cases h : n < 10
    · rw [Lib.decDigits_one h]
      have : (UInt8.ofNat (48 + n)).toNat = 48 + n := by rw [UInt8.toNat_ofNat']; exact Nat.mod_eq_of_lt (by omega)
      show 10 * 0 + ((UInt8.ofNat (48 + n)).toNat - 48) = n
      omega
    · rw [dec_step h, dval_snoc, ih (n / 10) (by omega)]
      have : (UInt8.ofNat (48 + n % 10)).toNat = 48 + n % 10 := by rw [UInt8.toNat_ofNat']; exact Nat.mod_eq_of_lt (by omega)
      omega
theorem dval_lt : ∀ (k : Nat) (l : List UInt8), l.length = k → (∀ c ∈ l, c.toNat ≤ 57) → dval l < 10 ^ k
  | 0, l, h, _ => by
    obtain rfl : l = [] := List.eq_nil_of_length_eq_zero h
    simp [dval]
  | k + 1, l, h, hd => by
    have hne : l ≠ [] := fun e => by rw [e] at h; simp at h
    have e := List.dropLast_concat_getLast hne
    have ih := dval_lt k l.dropLast (by simp; omega) (fun c hc => hd c (List.dropLast_subset l hc))
    have hl := hd _ (List.getLast_mem hne)
    rw [← e, dval_snoc, Nat.pow_succ]; omega
theorem dec_inj {n m : Nat} (h : Lib.decDigits n = Lib.decDigits m) : n = m := by rw [← dval_dec n, h, dval_dec]
theorem dec_ne (n : Nat) : Lib.decDigits n ≠ [] := fun e => by
  by_cases h : n < 10
  · rw [Lib.decDigits_one h] at e; simp at e
  · rw [dec_step h] at e; simp at e
theorem itoa_inj {a b : Int} (h : Lib.itoa a = Lib.itoa b) : a = b := by
  unfold Lib.itoa at h
  by_cases ha : a < 0 <;> by_cases hb : b < 0
  · rw [if_pos ha, if_pos hb] at h
    have := dec_inj (List.cons.inj h).2; omega
  · rw [if_pos ha, if_neg hb] at h
    have := dd_dig b.toNat 45 (by rw [← h]; exact List.mem_cons_self ..)
    have e : (45 : UInt8).toNat = 45 := rfl
    omega
  · rw [if_neg ha, if_pos hb] at h
    have := dd_dig a.toNat 45 (by rw [h]; exact List.mem_cons_self ..)
    have e : (45 : UInt8).toNat = 45 := rfl
    omega
  · rw [if_neg ha, if_neg hb] at h
    have := dec_inj h; omega
theorem itoa_ne (a : Int) : Lib.itoa a ≠ [] := by
  unfold Lib.itoa
  split
  · simp
  · exact dec_ne _
theorem itoa_dig (a : Int) : ∀ c ∈ Lib.itoa a, 45 ≤ c.toNat ∧ c.toNat ≤ 57 := fun c hc => by
  unfold Lib.itoa at hc
  split at hc
  · rcases List.mem_cons.1 hc with rfl | hc
    · decide
    · have := dd_dig _ c hc; omega
  · have := dd_dig _ c hc; omega
/-- The parse of a numeral. -/
theorem parseM_snoc {M : Nat} {c : UInt8} (hc : 48 ≤ c.toNat ∧ c.toNat ≤ 57) : ∀ (l : List UInt8) (acc a : Nat), Lib.parseUintM M acc l = .ok a → a < 1844674407370955162 → a * 10 + (c.toNat - 48) ≤ M → Lib.parseUintM M acc (l ++ [c]) = .ok (a * 10 + (c.toNat - 48))
  | [], acc, a, h, h1, h2 => by
    simp only [Lib.parseUintM] at h
    injection h with h
    subst h
    simp only [List.nil_append, Lib.parseUintM]
    rw [if_pos hc, if_neg (by omega), if_neg (by omega)]
  | d :: l, acc, a, h, h1, h2 => by
    simp only [List.cons_append, Lib.parseUintM] at h ⊢
    split at h
    · rename_i hd
      rw [if_pos hd]
      split at h
      · cases h
      · rename_i h3
        rw [if_neg h3]
        split at h
        · cases h
        · rename_i h4
          rw [if_neg h4]
          exact parseM_snoc hc l _ a h h1 h2
    · cases h
theorem parseM_dec : ∀ (u : Nat), u ≤ 9223372036854775808 → Lib.parseUintM (2 ^ 64 - 1) 0 (Lib.decDigits u) = .ok u := fun u => by
  induction u using Nat.strongRecOn with
  | ind u ih =>
    intro hu
    by_cases h : u < 10
    · rw [Lib.decDigits_one h]
      have e : (UInt8.ofNat (48 + u)).toNat = 48 + u := by rw [UInt8.toNat_ofNat']; exact Nat.mod_eq_of_lt (by omega)
      have := parseM_snoc (M := 2 ^ 64 - 1) (c := UInt8.ofNat (48 + u)) (by omega) [] 0 0 rfl (by omega) (by omega)
      rw [e] at this
      simpa using this
    · have e : (UInt8.ofNat (48 + u % 10)).toNat = 48 + u % 10 := by rw [UInt8.toNat_ofNat']; exact Nat.mod_eq_of_lt (by omega)
      have := parseM_snoc (M := 2 ^ 64 - 1) (c := UInt8.ofNat (48 + u % 10)) (by omega) (Lib.decDigits (u / 10)) 0 (u / 10) (ih (u / 10) (by omega) (by omega)) (by omega) (by omega)
      rw [e] at this
      rw [dec_step h, this]
      congr 1; omega
theorem parse_itoa {v : Int} (h0 : -9223372036854775808 ≤ v) (h1 : v ≤ 9223372036854775807) : Lib.parseIntB 64 (Lib.itoa v) = .ok v := by
  unfold Lib.itoa
  by_cases hv : v < 0
  · rw [if_pos hv, Lib.parseIntB_minus]
    unfold Lib.parseUintB
    rw [if_neg (dec_ne _), parseM_dec _ (by omega)]
    unfold Lib.signedC
    simp only
    rw [if_neg (by omega)]
    congr 1; omega
  · rw [if_neg hv]
    cases hl : Lib.decDigits v.toNat with
    | nil => exact absurd hl (dec_ne _)
    | cons c r =>
      have hc := dd_dig v.toNat c (by rw [hl]; exact List.mem_cons_self ..)
      rw [Lib.parseIntB_plain 64 c r (by omega) (by omega), ← hl]
      unfold Lib.parseUintB
      rw [if_neg (dec_ne _), parseM_dec _ (by omega)]
      unfold Lib.signlessC
      simp only
      rw [if_neg (by omega)]
      congr 1; omega

/-! ### Words and buildings -/
theorem word_free (p : Int) (d : Bool) : 32 ∉ word p d := fun h => by
  unfold word at h
  rcases List.mem_append.1 h with h | h
  · have := itoa_dig p 32 h
    have e : (32 : UInt8).toNat = 32 := rfl
    omega
  · cases d <;> simp at h
theorem word_inj {p q : Int} {d e : Bool} (h : word p d = word q e) : p = q ∧ d = e := by
  unfold word at h
  obtain ⟨h1, h2⟩ := List.append_inj' h rfl
  refine ⟨itoa_inj h1, ?_⟩
  cases d <;> cases e <;> simp at h2 <;> rfl
theorem wds_free (ps : List Int) (ds : List Bool) : ∀ k, ∀ x ∈ wds ps ds k, 32 ∉ x
  | 0, x, h => by simp [wds] at h
  | k + 1, x, h => by
    by_cases e : k = 0
    · subst e; rw [wds_one] at h; simp at h
    · rw [wds_succ (by omega)] at h
      rcases List.mem_append.1 h with h | h
      · exact wds_free ps ds k x h
      · obtain rfl := List.mem_singleton.1 h
        exact word_free _ _
theorem wds_at (ps : List Int) (ds : List Bool) : ∀ k i, i + 1 < k → (wds ps ds k)[i]? = some (word (par ps (i + 1)) (isD ds (i + 1)))
  | 0, i, h => by omega
  | k + 1, i, h => by
    rw [wds_succ (by omega)]
    by_cases e : i + 1 < k
    · rw [List.getElem?_append_left (by rw [wds_len]; omega)]
      exact wds_at ps ds k i e
    · have : i = k - 1 := by omega
      subst this
      rw [List.getElem?_append_right (by rw [wds_len]; omega), wds_len]
      have e2 : k - 1 + 1 = k := by omega
      rw [Nat.sub_self, e2]; rfl
/-- A text is that of a building. -/
def Rb (s : List UInt8) (ps : List Int) (ds : List Bool) : Prop := bld ps ds ∧ s = btx ps ds ps.length
theorem Rb.spl {s : List UInt8} {ps : List Int} {ds : List Bool} (h : Rb s ps ds) : spl s = wds ps ds ps.length := by
  rw [h.2]
  exact spl_join _ (fun e => by have h1 := wds_len ps ds ps.length; rw [e] at h1; have := h.1.1.1.1; simp at h1; omega) (wds_free ps ds _)
theorem list_ext {α : Type} {a b : List α} {x : α} (hl : a.length = b.length) (h : ∀ i, i < a.length → a.getD i x = b.getD i x) : a = b := by
  apply List.ext_getElem hl
  intro i h1 h2
  have := h i h1
  rwa [getD_lt h1, getD_lt h2] at this
theorem Rb.uniq {s : List UInt8} {ps qs : List Int} {ds es : List Bool} (h : Rb s ps ds) (k : Rb s qs es) : ps = qs ∧ ds = es := by
  have e := h.spl.symm.trans k.spl
  obtain ⟨⟨⟨a1, a2⟩, a3, a4, a5⟩, _⟩ := h.1
  obtain ⟨⟨⟨b1, b2⟩, b3, b4, b5⟩, _⟩ := k.1
  have hl : ps.length = qs.length := by
    have := congrArg List.length e
    rw [wds_len, wds_len] at this; omega
  have hw : ∀ i, i + 1 < ps.length → par ps (i + 1) = par qs (i + 1) ∧ isD ds (i + 1) = isD es (i + 1) := fun i hi => by
    have h1 := wds_at ps ds ps.length i hi
    have h2 := wds_at qs es qs.length i (by omega)
    rw [e, h2] at h1
    exact ⟨(word_inj (Option.some.inj h1)).1.symm, (word_inj (Option.some.inj h1)).2.symm⟩
  refine ⟨list_ext (x := 0) hl (fun i hi => ?_), list_ext (x := false) (by omega) (fun i hi => ?_)⟩
  · cases i with
    | zero => exact a4.trans b4.symm
    | succ i => exact (hw i hi).1
  · cases i with
    | zero => exact a5.trans b5.symm
    | succ i => exact (hw i (by omega)).2
open Classical in
noncomputable def rbC (s : List UInt8) : Int := if ∃ x : List Int × List Bool, Rb s x.1 x.2 then 0 else 6
open Classical in
noncomputable def rbP (s : List UInt8) : List Int × List Bool := if h : ∃ x : List Int × List Bool, Rb s x.1 x.2 then h.choose else ([], [])
theorem rb_yes {s : List UInt8} {ps : List Int} {ds : List Bool} (h : Rb s ps ds) : rbC s = 0 ∧ rbP s = (ps, ds) := by
  have hx : ∃ x : List Int × List Bool, Rb s x.1 x.2 := ⟨(ps, ds), h⟩
  unfold rbC rbP
  rw [if_pos hx, dif_pos hx]
  obtain ⟨e1, e2⟩ := Rb.uniq hx.choose_spec h
  exact ⟨rfl, Prod.ext e1 e2⟩
theorem rb_no {s : List UInt8} (h : ∀ ps ds, ¬ Rb s ps ds) : rbC s = 6 ∧ rbP s = ([], []) := by
  have hx : ¬ ∃ x : List Int × List Bool, Rb s x.1 x.2 := fun ⟨x, hh⟩ => h _ _ hh
  unfold rbC rbP
  rw [if_neg hx, dif_neg hx]
  exact ⟨rfl, rfl⟩
theorem rbC_zero {s : List UInt8} : rbC s = 0 → Rb s (rbP s).1 (rbP s).2 := fun h => by
  unfold rbC at h
  split at h
  · rename_i hx
    obtain ⟨x, hh⟩ := hx
    rw [(rb_yes hh).2]; exact hh
  · omega
theorem rbP_len {s : List UInt8} : (rbP s).1.length ≤ 24 ∧ (rbP s).2.length ≤ 24 := by
  unfold rbP
  split
  · rename_i h
    have := h.choose_spec.1
    obtain ⟨⟨⟨a1, a2⟩, a3, _⟩, _⟩ := this
    omega
  · simp
/-- What the words told so far, under the root. -/
def told (vs : List Int) (bs : List Bool) (k : Nat) : List (List UInt8) := (List.range k).map fun i => word (vs.getD i 0) (bs.getD i false)
theorem told_wds (vs : List Int) (bs : List Bool) : ∀ k, wds (-1 :: vs) (false :: bs) (k + 1) = told vs bs k
  | 0 => wds_one _ _
  | k + 1 => by
    rw [wds_succ (by omega), told_wds vs bs k]
    unfold told
    rw [List.range_succ, List.map_append]
    rfl
end B
end Go.Proofs.YtebegkegkdmbjaaDoor
