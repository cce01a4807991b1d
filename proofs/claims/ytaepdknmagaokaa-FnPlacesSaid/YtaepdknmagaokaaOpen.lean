/-
  The keys that a lock's sets leave, with a bound on their number; slices of slices whose rows may be older than they are.
-/
import Derived.Test.YtaepdknmagaokaaWea2
import Derived.Test.YtaepdknmagaokaaCut2
namespace Go.Proofs.Ytaepdknmagaokaa
namespace B
open Go.RowKit

def opn (q : Mk) (ss : List (List Int)) : Nat → List Int → Int → List (List Int)
  | 0, ks, most => if bgn q ks ∧ 0 < most ∧ q.le ≤ (kn ks ks.length : Int) then [ks] else []
  | n + 1, ks, most => if bgn q ks ∧ 0 < most then (ss.getD ks.length []).foldl (fun out x => out ++ opn q ss n (ks ++ [x]) (most - (out.length : Int))) [] else []
def opF (q : Mk) (ss : List (List Int)) (n : Nat) (ks : List Int) (most : Int) (set : List Int) : List (List Int) := set.foldl (fun out x => out ++ opn q ss n (ks ++ [x]) (most - (out.length : Int))) []
theorem opF_nil {q : Mk} {ss : List (List Int)} {n : Nat} {ks : List Int} {most : Int} : opF q ss n ks most [] = [] := rfl
theorem opF_snoc {q : Mk} {ss : List (List Int)} {n : Nat} {ks : List Int} {most : Int} {set : List Int} {k : Nat} (h : k < set.length) :
    opF q ss n ks most (set.take (k + 1)) = opF q ss n ks most (set.take k) ++ opn q ss n (ks ++ [set[k]]) (most - ((opF q ss n ks most (set.take k)).length : Int)) := by
  unfold opF
  rw [List.take_succ_eq_append_getElem h, List.foldl_append]; rfl
theorem opn_zero_yes {q : Mk} {ss : List (List Int)} {ks : List Int} {most : Int} (h : bgn q ks) (h0 : 0 < most) (h1 : q.le ≤ (kn ks ks.length : Int)) : opn q ss 0 ks most = [ks] := by unfold opn; rw [if_pos ⟨h, h0, h1⟩]
theorem opn_zero_no {q : Mk} {ss : List (List Int)} {ks : List Int} {most : Int} (h1 : ¬ q.le ≤ (kn ks ks.length : Int)) : opn q ss 0 ks most = [] := by unfold opn; rw [if_neg (fun h => h1 h.2.2)]
theorem opn_bad {q : Mk} {ss : List (List Int)} {n : Nat} {ks : List Int} {most : Int} (h : ¬ bgn q ks) : opn q ss n ks most = [] := by cases n <;> (unfold opn; rw [if_neg (fun hh => h hh.1)])
theorem opn_none {q : Mk} {ss : List (List Int)} {n : Nat} {ks : List Int} {most : Int} (h : most ≤ 0) : opn q ss n ks most = [] := by
  cases n with
  | zero => unfold opn; rw [if_neg (fun hh => by have := hh.2.1; omega)]
  | succ n => unfold opn; rw [if_neg (fun hh => by have := hh.2; omega)]
theorem opn_succ {q : Mk} {ss : List (List Int)} {n : Nat} {ks : List Int} {most : Int} (h : bgn q ks) (h0 : 0 < most) : opn q ss (n + 1) ks most = opF q ss n ks most (ss.getD ks.length []) := by
  unfold opn opF; rw [if_pos ⟨h, h0⟩]
theorem fold_len {q : Mk} {ss : List (List Int)} {n : Nat} {ks : List Int} {most : Int} (ih : ∀ ks most, 0 ≤ most → ((opn q ss n ks most).length : Int) ≤ most) :
    ∀ (set : List Int) (out : List (List Int)), (out.length : Int) ≤ most → ((set.foldl (fun out x => out ++ opn q ss n (ks ++ [x]) (most - (out.length : Int))) out).length : Int) ≤ most
  | [], out, h => h
  | x :: set, out, h => by
    refine fold_len ih set _ ?_
    have := ih (ks ++ [x]) (most - (out.length : Int)) (by omega)
    rw [List.length_append]; omega
theorem opn_len {q : Mk} {ss : List (List Int)} : ∀ (n : Nat) (ks : List Int) (most : Int), 0 ≤ most → ((opn q ss n ks most).length : Int) ≤ most
  | 0, ks, most, h => by
    unfold opn; split
    · rename_i h1; have := h1.2.1; simp; omega
    · simpa using h
  | n + 1, ks, most, h => by
    unfold opn; split
    · exact fold_len (fun ks most h => opn_len n ks most h) _ [] (by simpa using h)
    · simpa using h
theorem opn_le {q : Mk} {ss : List (List Int)} {n : Nat} {ks : List Int} {most : Int} : ((opn q ss n ks most).length : Int) ≤ max most 0 := by
  by_cases h : 0 ≤ most
  · have := opn_len (q := q) (ss := ss) n ks most h; omega
  · rw [opn_none (by omega)]; simp; omega
theorem opF_len {q : Mk} {ss : List (List Int)} {n : Nat} {ks : List Int} {most : Int} (set : List Int) (h : 0 ≤ most) : ((opF q ss n ks most set).length : Int) ≤ most :=
  fold_len (fun ks most h => opn_len n ks most h) set [] (by simpa using h)
/-- All rows are keys' beginnings of the full length. -/
theorem fold_mem {q : Mk} {ss : List (List Int)} {n : Nat} {ks : List Int} {most : Int} {P : List Int → Prop} (ih : ∀ x most, ∀ k ∈ opn q ss n (ks ++ [x]) most, P k) :
    ∀ (set : List Int) (out : List (List Int)), (∀ k ∈ out, P k) → ∀ k ∈ set.foldl (fun out x => out ++ opn q ss n (ks ++ [x]) (most - (out.length : Int))) out, P k
  | [], out, h => h
  | x :: set, out, h => by
    refine fold_mem ih set _ (fun k hk => ?_)
    rcases List.mem_append.1 hk with h1 | h1
    · exact h k h1
    · exact ih x _ k h1
theorem opn_mem {q : Mk} {ss : List (List Int)} : ∀ (n : Nat) (ks : List Int) (most : Int), ∀ k ∈ opn q ss n ks most, k.length = ks.length + n
  | 0, ks, most, k, h => by
    unfold opn at h; split at h
    · obtain rfl : k = ks := by simpa using h
      rfl
    · simp at h
  | n + 1, ks, most, k, h => by
    unfold opn at h; split at h
    · exact fold_mem (P := fun k => k.length = ks.length + (n + 1)) (fun x m k hk => by have := opn_mem n _ m k hk; simp at this; omega) _ [] (fun k hk => by simp at hk) k h
    · simp at h

/-- The sum over the places of a set. -/
theorem fold_count {q : Mk} {ss : List (List Int)} {n : Nat} {ks : List Int} {most : Int} {g : Int → Nat} {b : Nat} (hg : ∀ x m, (b : Int) ≤ m → (opn q ss n (ks ++ [x]) m).length = g x) (hb : ∀ x, g x ≤ b) :
    ∀ (set : List Int) (out : List (List Int)), (out.length : Int) + (set.length : Int) * (b : Int) ≤ most → (set.foldl (fun out x => out ++ opn q ss n (ks ++ [x]) (most - (out.length : Int))) out).length = out.length + (set.map g).sum
  | [], out, h => by simp
  | x :: set, out, h => by
    have h1 : ((x :: set).length : Int) * (b : Int) = (set.length : Int) * (b : Int) + (b : Int) := by rw [List.length_cons, Int.natCast_add, Int.add_mul]; simp
    rw [h1] at h
    have h0 : 0 ≤ (set.length : Int) * (b : Int) := Int.mul_nonneg (by omega) (by omega)
    have h2 := hg x (most - (out.length : Int)) (by omega)
    have h3 := hb x
    rw [List.foldl_cons, fold_count hg hb set _ (by rw [List.length_append, h2]; omega), List.length_append, h2]
    simp; omega
theorem sum_idxs {p : Nat → Bool} {g : Int → Nat} : ∀ k, ((idxs p k).map g).sum = sumTo (fun d => if p d = true then g (d : Int) else 0) k
  | 0 => rfl
  | k + 1 => by
    unfold sumTo
    rw [← sum_idxs k]
    cases h : p k
    · rw [idxs_no h]; simp
    · rw [idxs_yes h]; simp
theorem idxs_mem {p : Nat → Bool} {k : Nat} {d : Nat} (hd : d < k) : (d : Int) ∈ idxs p k ↔ p d = true := by
  unfold idxs
  rw [List.mem_map]
  constructor
  · rintro ⟨i, hi, e⟩
    obtain rfl : i = d := by omega
    exact (List.mem_filter.1 hi).2
  · intro h
    exact ⟨d, List.mem_filter.2 ⟨List.mem_range.2 hd, h⟩, rfl⟩
/-- Without a bound that bites, all keys that the sets leave are told. -/
theorem opn_cf {q : Mk} {ss : List (List Int)} (h8 : q.dp ≤ 8) (hs : ∀ i, i < ss.length → ∃ p : Nat → Bool, ss.getD i [] = idxs p q.dp.toNat) :
    ∀ (n : Nat) (ks : List Int) (most : Int), ks.length + n = ss.length → bgn q ks → ((8 ^ n : Nat) : Int) ≤ most → (opn q ss n ks most).length = cf q (fun i d => d ∈ ss.getD i []) n ks
  | 0, ks, most, _, hb, hm => by
    unfold opn cf
    by_cases h : q.le ≤ (kn ks ks.length : Int)
    · rw [if_pos ⟨hb, by simp at hm; omega, h⟩, if_pos h]; rfl
    · rw [if_neg (fun hh => h hh.2.2), if_neg h]; rfl
  | n + 1, ks, most, hl, hb, hm => by
    have hp : 8 ^ (n + 1) = 8 ^ n * 8 := Nat.pow_succ ..
    have hp0 : 0 < 8 ^ n := Nat.pow_pos (by omega)
    obtain ⟨p, hp2⟩ := hs ks.length (by omega)
    rw [opn_succ hb (by omega)]
    unfold opF cf
    rw [hp2]
    have hlen := idxs_le p q.dp.toNat
    have hmul : (idxs p q.dp.toNat).length * 8 ^ n ≤ 8 * 8 ^ n := Nat.mul_le_mul_right _ (by omega)
    rw [fold_count (b := 8 ^ n) (g := fun x => if nxt q ks x then cf q (fun i d => d ∈ ss.getD i []) n (ks ++ [x]) else 0)
      (fun x m hm2 => ?_) (fun x => ?_) _ [] (by simp only [List.length_nil]; rw [← Int.natCast_mul]; omega)]
    · rw [sum_idxs]
      simp only [List.length_nil, Nat.zero_add]
      refine sumTo_congr _ (fun d hd => ?_)
      by_cases h1 : p d = true
      · rw [if_pos h1]
        by_cases h2 : nxt q ks (d : Int)
        · rw [if_pos h2, if_pos ⟨(idxs_mem hd).2 h1, h2⟩]
        · rw [if_neg h2, if_neg (fun hh => h2 hh.2)]
      · rw [if_neg h1, if_neg (fun hh => h1 ((idxs_mem hd).1 hh.1))]
    · show _ = if nxt q ks x then _ else 0
      by_cases h2 : nxt q ks x
      · rw [if_pos h2]
        exact opn_cf h8 hs n (ks ++ [x]) m (by simp; omega) (bgn_snoc.2 ⟨hb, h2⟩) hm2
      · rw [if_neg h2, opn_bad (fun hh => h2 (bgn_snoc.1 hh).2)]; rfl
    · show (if nxt q ks x then _ else 0) ≤ _
      split
      · exact cf_le h8 n _
      · exact Nat.zero_le _

/-- Slices of slices whose rows may be older than they are. -/
def OwX (te : TypeId) (w : World) (B Bc : Nat) (v : Value) (cs : List Value) (rs : List (List Int)) : Prop :=
  OV w B te v cs ∧ cs.length = rs.length ∧ ∀ i, i < rs.length → SI w (cs.getD i undef) (rs.getD i []) ∧ NB (cs.getD i undef) v ∧ InB Bc w.heap.size (cs.getD i undef)
section
variable {te B Bc : Nat} {w w' : World} {v : Value} {cs : List Value} {rs : List (List Int)}
theorem OwX.nil (w : World) (te B Bc : Nat) : OwX te w B Bc (.slice none 0 0) [] [] := ⟨OV.nil _ _ _, rfl, fun i hi => absurd hi (Nat.not_lt_zero i)⟩
theorem OwX.rd (h : OwX te w B Bc v cs rs) : RdN ints w v rs := ⟨cs, h.1.sv, h.2.1, fun i hi => (h.2.2 i hi).1⟩
theorem OwX.ext (h : OwX te w B Bc v cs rs) (he : Ext w w') : OwX te w' B Bc v cs rs :=
  ⟨h.1.ext he, h.2.1, fun i hi => ⟨(h.2.2 i hi).1.ext he, (h.2.2 i hi).2.1, fun b hb => by have := (h.2.2 i hi).2.2 b hb; have := he.size; omega⟩⟩
theorem OwX.mono {B' : Nat} (h : OwX te w B Bc v cs rs) (hb : B' ≤ B) : OwX te w B' Bc v cs rs := ⟨h.1.mono hb, h.2⟩
theorem OwX.one (h : OwX te w B Bc v cs rs) : ∀ x ∈ cs, x.oneCell' = true := fun x hx => by
  obtain ⟨i, hi, rfl⟩ := List.mem_iff_getElem.1 hx
  have := (h.2.2 i (by rw [← h.2.1]; exact hi)).1
  rw [getD_lt hi] at this
  exact slice_one this
theorem OwX.app {Bc' B2 : Nat} {u v' : Value} {cs2 : List Value} {rs2 : List (List Int)} (h : OwX te w B Bc v cs rs) (h2 : OwX te w B2 Bc' u cs2 rs2) (hBc : Bc ≤ Bc') (hv : ∀ b, v.ownBlock = some b → b < Bc')
    (hv' : OV w' B te v' (cs ++ cs2)) (hg : w.grownBy w' v.ownBlock) (hb : v'.ownBlock = v.ownBlock ∨ v'.ownBlock = some w.heap.size) : OwX te w' B Bc v' (cs ++ cs2) (rs ++ rs2) := by
  have hsz := hg.size
  have one : ∀ {x : Value} {r : List Int}, SI w x r → InB Bc w.heap.size x → NB x v → SI w' x r ∧ NB x v' ∧ InB Bc w'.heap.size x := fun {x r} h1 h2 h3 =>
    ⟨h1.keep (fun y hy h0 => hg.block y (h1.lt h0 y hy) (fun e => h3 y hy e.symm)), fun y h4 h5 => by
      rcases hb with hb | hb
      · rw [hb] at h5; exact h3 y h4 h5
      · rw [hb] at h5; have := h2 y h4; simp only [Option.some.injEq] at h5; omega, fun y hy => by have := h2 y hy; omega⟩
  refine ⟨hv', by rw [List.length_append, List.length_append, h.2.1, h2.2.1], fun i hi => ?_⟩
  have hcl := h.2.1
  by_cases e1 : i < rs.length
  · have e2 : (cs ++ cs2).getD i undef = cs.getD i undef := by simp [List.getD, List.getElem?_append_left (show i < cs.length by omega)]
    have e3 : (rs ++ rs2).getD i [] = rs.getD i [] := by simp [List.getD, List.getElem?_append_left e1]
    rw [e2, e3]
    exact one (h.2.2 i e1).1 (h.2.2 i e1).2.2 (h.2.2 i e1).2.1
  · have e2 : (cs ++ cs2).getD i undef = cs2.getD (i - rs.length) undef := by simp [List.getD, List.getElem?_append_right (show cs.length ≤ i by omega), hcl]
    have e3 : (rs ++ rs2).getD i [] = rs2.getD (i - rs.length) [] := by simp [List.getD, List.getElem?_append_right (show rs.length ≤ i by omega)]
    have hi2 : i - rs.length < rs2.length := by rw [List.length_append] at hi; omega
    rw [e2, e3]
    obtain ⟨g1, g2, g3⟩ := h2.2.2 _ hi2
    exact one g1 (fun b hb => by have := g3 b hb; omega) (fun b h4 h5 => by have := (g3 b h4).1; have := hv b h5; omega)
theorem OwX.single {u : Value} {r : List Int} (hv : OV w' w.heap.size te v [u]) (hb : v.ownBlock = some w.heap.size) (hu : SI w' u r) (hi : InB Bc w.heap.size u) (hs : w.heap.size ≤ w'.heap.size) : OwX te w' w.heap.size Bc v [u] [r] :=
  ⟨hv, rfl, fun i hi2 => by
    obtain rfl : i = 0 := by simpa using hi2
    exact ⟨hu, fun y h4 h5 => by have := hi y h4; rw [hb] at h5; simp only [Option.some.injEq] at h5; omega, fun y hy => by have := hi y hy; omega⟩⟩
end
end B
end Go.Proofs.Ytaepdknmagaokaa
