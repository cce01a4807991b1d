/-
  All keys in their order, one behind the other.
-/
import Derived.Test.YtaepdknmagaokaaOpen
namespace Go.Proofs.Ytaepdknmagaokaa
namespace B
open Go.RowKit

theorem flat_skip {α : Type} {f : Nat → List α} : ∀ (l : List Nat), (∀ d ∈ l, f d = []) → l.flatMap f = []
  | [], _ => rfl
  | d :: l, h => by rw [List.flatMap_cons, h d (List.mem_cons_self ..), flat_skip l (fun x hx => h x (List.mem_cons_of_mem _ hx))]; rfl
/-- The parts from one depth on. -/
def upF {α : Type} (f : Nat → List α) (N a : Nat) : List α := ((List.range N).drop a).flatMap f
theorem upF_end {α : Type} {f : Nat → List α} {N a : Nat} (h : N ≤ a) : upF f N a = [] := by
  unfold upF; rw [List.drop_eq_nil_of_le (by simpa using h)]; rfl
theorem upF_step {α : Type} {f : Nat → List α} {N a : Nat} (h : a < N) : upF f N a = f a ++ upF f N (a + 1) := by
  unfold upF
  rw [List.drop_eq_getElem_cons (by simpa using h), List.flatMap_cons, List.getElem_range]
theorem upF_zero {α : Type} {f : Nat → List α} {N : Nat} : upF f N 0 = (List.range N).flatMap f := rfl
theorem upF_skip {α : Type} {f : Nat → List α} {N a : Nat} : ∀ b, a ≤ b → b ≤ N → (∀ d, a ≤ d → d < b → f d = []) → upF f N a = upF f N b
  | b, h1, h2, h3 => by
    by_cases e : a = b
    · rw [e]
    · rw [upF_step (by omega), h3 a (Nat.le_refl _) (by omega), List.nil_append]
      exact upF_skip b (by omega) h2 (fun d hd => h3 d (by omega))
termination_by b => b - a
theorem upF_mem {α : Type} {f : Nat → List α} {N a : Nat} {x : α} (h : x ∈ upF f N a) : ∃ d, a ≤ d ∧ d < N ∧ x ∈ f d := by
  unfold upF at h
  obtain ⟨d, hd, hx⟩ := List.mem_flatMap.1 h
  obtain ⟨i, hi, rfl⟩ := List.mem_iff_getElem.1 hd
  simp only [List.length_drop, List.length_range] at hi
  rw [List.getElem_drop, List.getElem_range] at hx
  exact ⟨a + i, by omega, by omega, hx⟩
/-- The first part that is not empty. -/
theorem upF_first {α : Type} {f : Nat → List α} {N : Nat} {x : α} : ∀ (m a : Nat), N - a ≤ m → (upF f N a).head? = some x → ∃ d, a ≤ d ∧ d < N ∧ (f d).head? = some x ∧ upF f N a = f d ++ upF f N (d + 1)
  | m, a, hm, h => by
    by_cases e : a < N
    · rw [upF_step e] at h
      cases hf : f a with
      | nil =>
        cases m with
        | zero => omega
        | succ m =>
          rw [hf, List.nil_append] at h
          obtain ⟨d, h1, h2, h3, h4⟩ := upF_first m (a + 1) (by omega) h
          exact ⟨d, by omega, h2, h3, by rw [upF_step e, hf, List.nil_append, h4]⟩
      | cons y ys =>
        rw [hf] at h
        exact ⟨a, Nat.le_refl _, e, by rw [hf]; exact h, by rw [upF_step e]⟩
    · rw [upF_end (by omega)] at h; cases h
theorem upF_none {α : Type} {f : Nat → List α} {N a : Nat} (h : ∀ d, a ≤ d → d < N → f d = []) : upF f N a = [] := by
  by_cases e : a ≤ N
  · rw [upF_skip N e (Nat.le_refl _) h, upF_end (Nat.le_refl _)]
  · exact upF_end (by omega)

/-- The keys behind a key, among those that begin with some cuts. -/
def aft (m : Mk) : Nat → List Int → List Int → List (List Int)
  | 0, _, _ => []
  | n + 1, ks, k => aft m n (ks ++ [k.getD ks.length 0]) k ++ upF (fun d : Nat => keysF m n (ks ++ [(d : Int)])) m.dp.toNat (k.getD ks.length 0 + 1).toNat

theorem aft_succ {m : Mk} {n : Nat} {ks k : List Int} : aft m (n + 1) ks k = aft m n (ks ++ [k.getD ks.length 0]) k ++ upF (fun d : Nat => keysF m n (ks ++ [(d : Int)])) m.dp.toNat (k.getD ks.length 0 + 1).toNat := rfl
theorem keysF_bgn {m : Mk} {n : Nat} {ks : List Int} (h : keysF m n ks ≠ []) : bgn m ks := by
  by_cases hb : bgn m ks
  · exact hb
  · exfalso; apply h
    cases n with
    | zero => unfold keysF; rw [if_neg (fun hh => hb hh.1)]
    | succ n => unfold keysF; rw [if_neg hb]
theorem keysF_up {m : Mk} {n : Nat} {ks : List Int} (hb : bgn m ks) : keysF m (n + 1) ks = upF (fun d : Nat => keysF m n (ks ++ [(d : Int)])) m.dp.toNat 0 := by
  rw [upF_zero]; conv => lhs; unfold keysF
  rw [if_pos hb]
theorem ne_of_head {α : Type} {l : List α} {x : α} (h : l.head? = some x) : l ≠ [] := fun e => by rw [e] at h; cases h
theorem mem_of_head {α : Type} {l : List α} {x : α} (h : l.head? = some x) : x ∈ l := List.mem_of_mem_head? (by rw [h]; rfl)
theorem toNat_cast (d : Nat) : ((d : Int) + 1).toNat = d + 1 := by omega

theorem keysF_head {m : Mk} : ∀ (n : Nat) (ks k : List Int), (keysF m n ks).head? = some k → keysF m n ks = k :: aft m n ks k
  | 0, ks, k, h => by
    unfold keysF at h ⊢
    split at h
    · rename_i hc; rw [if_pos hc]
      obtain rfl : ks = k := by simpa using h
      rfl
    · cases h
  | n + 1, ks, k, h => by
    have hb := keysF_bgn (ne_of_head h)
    rw [keysF_up hb] at h ⊢
    obtain ⟨d, h1, h2, h3, h4⟩ := upF_first _ 0 (Nat.le_refl _) h
    have hd : k.getD ks.length 0 = (d : Int) := keysF_last (mem_of_head h3)
    rw [h4]
    show keysF m n (ks ++ [(d : Int)]) ++ _ = k :: aft m (n + 1) ks k
    rw [keysF_head n _ k h3, aft_succ, hd, toNat_cast]
    rfl
theorem keysF_mem {m : Mk} {n : Nat} {ks k : List Int} (h : k ∈ keysF m (n + 1) ks) : ∃ d : Nat, d < m.dp.toNat ∧ k ∈ keysF m n (ks ++ [(d : Int)]) ∧ k.getD ks.length 0 = (d : Int) := by
  rw [keysF_up (keysF_bgn (List.ne_nil_of_mem h))] at h
  obtain ⟨d, _, h2, h3⟩ := upF_mem h
  exact ⟨d, h2, h3, keysF_last h3⟩
theorem upF_in {α : Type} {f : Nat → List α} {N d : Nat} {x : α} (h : d < N) (hx : x ∈ f d) : x ∈ upF f N 0 := by
  rw [upF_zero]; exact List.mem_flatMap.2 ⟨d, List.mem_range.2 h, hx⟩
theorem aft_mem {m : Mk} : ∀ (n : Nat) (ks k x : List Int), k ∈ keysF m n ks → x ∈ aft m n ks k → x ∈ keysF m n ks
  | 0, _, _, _, _, h => by simp [aft] at h
  | n + 1, ks, k, x, hk, h => by
    have hb := keysF_bgn (List.ne_nil_of_mem hk)
    obtain ⟨d, h1, h2, h3⟩ := keysF_mem hk
    rw [aft_succ, h3] at h
    rw [keysF_up hb]
    rcases List.mem_append.1 h with h | h
    · exact upF_in (f := fun d : Nat => keysF m n (ks ++ [(d : Int)])) h1 (aft_mem n _ k x h2 h)
    · obtain ⟨e, _, e2, e3⟩ := upF_mem h
      exact upF_in (f := fun d : Nat => keysF m n (ks ++ [(d : Int)])) e2 e3
theorem aft_next {m : Mk} : ∀ (n : Nat) (ks k x : List Int), k ∈ keysF m n ks → (aft m n ks k).head? = some x → aft m n ks k = x :: aft m n ks x
  | 0, _, _, _, _, h => by cases h
  | n + 1, ks, k, x, hk, h => by
    obtain ⟨d, h1, h2, h3⟩ := keysF_mem hk
    rw [aft_succ, h3] at h ⊢
    cases ha : aft m n (ks ++ [(d : Int)]) k with
    | cons y ys =>
      rw [ha] at h
      obtain rfl : y = x := by simpa using h
      have hh : (aft m n (ks ++ [(d : Int)]) k).head? = some y := by rw [ha]; rfl
      have hx := keysF_last (aft_mem n _ k y h2 (mem_of_head hh))
      rw [aft_succ, hx, ← ha, aft_next n _ k y h2 hh]
      rfl
    | nil =>
      rw [ha, List.nil_append] at h
      obtain ⟨e, e1, e2, e3, e4⟩ := upF_first _ _ (Nat.le_refl _) h
      have hx : x.getD ks.length 0 = (e : Int) := keysF_last (mem_of_head e3)
      rw [List.nil_append, e4, aft_succ, hx, toNat_cast]
      show keysF m n (ks ++ [(e : Int)]) ++ _ = _
      rw [keysF_head n _ x e3]
      rfl

/-- What follows, from a place on. -/
theorem take_snoc {k : List Int} {i : Nat} (h : i < k.length) : k.take i ++ [k.getD i 0] = k.take (i + 1) := by
  rw [getD_lt h, List.take_succ_eq_append_getElem h]
theorem aft_step {m : Mk} {k : List Int} {i n : Nat} (h : i < k.length) : aft m (n + 1) (k.take i) k = aft m n (k.take (i + 1)) k ++ upF (fun d : Nat => keysF m n (k.take i ++ [(d : Int)])) m.dp.toNat (k.getD i 0 + 1).toNat := by
  have hl : (k.take i).length = i := by rw [List.length_take]; omega
  rw [aft_succ, hl, take_snoc h]
theorem aft_top {m : Mk} {k x : List Int} : ∀ (i n : Nat), i + n = k.length → (aft m n (k.take i) k).head? = some x → (aft m k.length [] k).head? = some x
  | 0, n, e, h => by
    obtain rfl : n = k.length := by omega
    exact h
  | i + 1, n, e, h => by
    refine aft_top i (n + 1) (by omega) ?_
    rw [aft_step (by omega)]
    cases ha : aft m n (k.take (i + 1)) k with
    | nil => rw [ha] at h; cases h
    | cons y ys => rw [ha] at h; exact h

theorem keysF_cuts {m : Mk} : ∀ (n : Nat) (ks k : List Int), cuts m ks → k ∈ keysF m n ks → cuts m k
  | 0, ks, k, hc, h => by
    unfold keysF at h; split at h
    · obtain rfl : k = ks := by simpa using h
      exact hc
    · simp at h
  | n + 1, ks, k, hc, h => by
    obtain ⟨d, h1, h2, _⟩ := keysF_mem h
    refine keysF_cuts n _ k (fun x hx => ?_) h2
    rcases List.mem_append.1 hx with h | h
    · exact hc x h
    · have e : x = (d : Int) := by simpa using h
      omega

/-- What a search for the first of some keys answers. -/
def Hd (l : List (List Int)) (b : Bool) (xs : List Int) : Prop := (b = true ∧ l.head? = some xs) ∨ (b = false ∧ l = [] ∧ xs.length ≤ 6)

theorem Hd.yes {l : List (List Int)} {xs : List Int} (h : Hd l true xs) : l.head? = some xs := by rcases h with h | h; exact h.2; cases h.1
theorem Hd.no {l : List (List Int)} {xs : List Int} (h : Hd l false xs) : l = [] := by rcases h with h | h; cases h.1; exact h.2.1
theorem filt_cons {α : Type} {p : α → Bool} {x : α} {l : List α} : ((x :: l).filter p).length = (if p x = true then 1 else 0) + (l.filter p).length := by
  cases h : p x
  · rw [List.filter_cons_of_neg (by rw [h]; simp)]; simp
  · rw [List.filter_cons_of_pos h]; simp; omega
/-- The hull of keys. -/
def hul (m : Mk) (keys : List (List Int)) (n : Nat) : List (List Int) := (List.range n).map fun i => idxs (fun d => decide (∃ k ∈ keys, k.getD i 0 = (d : Int))) m.dp.toNat
theorem hul_len {m : Mk} {keys : List (List Int)} {n : Nat} : (hul m keys n).length = n := by simp [hul]
theorem hul_snoc {m : Mk} {keys : List (List Int)} {n : Nat} : hul m keys (n + 1) = hul m keys n ++ [idxs (fun d => decide (∃ k ∈ keys, k.getD n 0 = (d : Int))) m.dp.toNat] := by
  unfold hul; rw [List.range_succ, List.map_append]; rfl
theorem hul_at {m : Mk} {keys : List (List Int)} {n i : Nat} (h : i < n) : (hul m keys n).getD i [] = idxs (fun d => decide (∃ k ∈ keys, k.getD i 0 = (d : Int))) m.dp.toNat := by
  have h1 : i < (hul m keys n).length := by rw [hul_len]; exact h
  rw [getD_lt h1]
  refine (List.getElem_map ..).trans ?_
  rw [List.getElem_range]
theorem hul_mem {m : Mk} {keys : List (List Int)} {n : Nat} {r : List Int} (h : r ∈ hul m keys n) : cuts m r := by
  unfold hul at h
  obtain ⟨i, _, rfl⟩ := List.mem_map.1 h
  intro x hx
  obtain ⟨d, hd, _, rfl⟩ := mem_idxs.1 hx
  omega
theorem idxs_one {d : Nat} : ∀ k, idxs (fun e => decide ((d : Int) = (e : Int))) k = if d < k then [(d : Int)] else []
  | 0 => rfl
  | k + 1 => by
    by_cases e : d = k
    · subst e
      rw [idxs_yes (decide_eq_true rfl), idxs_one d, if_neg (by omega), if_pos (by omega)]; rfl
    · rw [idxs_no (decide_eq_false (by omega)), idxs_one k]
      by_cases h : d < k
      · rw [if_pos h, if_pos (by omega)]
      · rw [if_neg h, if_neg (by omega)]
theorem hul_one {m : Mk} {k : List Int} {n i : Nat} (hc : cuts m k) (hi : i < n) (hk : i < k.length) : (hul m [k] n).getD i [] = [k.getD i 0] := by
  rw [hul_at hi]
  have h1 := hc _ (List.getElem_mem hk)
  have h2 : (fun d : Nat => decide (∃ k' ∈ [k], k'.getD i 0 = (d : Int))) = fun e : Nat => decide (((k[i].toNat : Nat) : Int) = (e : Int)) := by
    funext d
    refine decide_eq_decide.2 ?_
    have : ((k[i].toNat : Nat) : Int) = k[i] := by omega
    rw [this]
    constructor
    · rintro ⟨k', h3, h4⟩
      obtain rfl : k' = k := by simpa using h3
      rw [getD_lt hk] at h4; exact h4
    · intro h3
      exact ⟨k, by simp, by rw [getD_lt hk]; exact h3⟩
  rw [h2, idxs_one, if_pos (by omega), getD_lt hk]
  congr 1
  omega
/-- A worn key may open the hull of one key. -/
theorem may_one {m : Mk} {k cs : List Int} {n w : Nat} {t : Int} (hc : cuts m k) (hn : k.length = n) (hl : cs.length = n) : mayTo (hul m [k] n) cs w t cs.length ↔ ∀ i, i < k.length → 0 ≤ i → 0 < cnt [k.getD i 0] (cs.getD i 0) w t := by
  constructor
  · intro h i hi _
    have := h i (by omega)
    rwa [hul_one hc (by omega) hi] at this
  · intro h i hi
    rw [hul_one hc (by omega) (by omega)]
    exact h i (by omega) (Nat.zero_le _)
end B
end Go.Proofs.Ytaepdknmagaokaa
