/-
  Makers and keys: IsMaker, the faults of keys, the codes; locks: IsLock.
-/
import Derived.Test.YtaepdknmagaokaaFRise
import Derived.Test.YtaepdknmagaokaaFNest
import Derived.Test.YtaepdknmagaokaaFSl
import Derived.Test.YtaepdknmagaokaaWea
import Derived.Test.YtaepdknmagaokaaLocks
namespace Go.Proofs.Ytaepdknmagaokaa
open B Go.RowKit

theorem SI.take {w : World} {v : Value} {cs : List Int} {k : Nat} (h : SI w v cs) (hk : k ≤ cs.length) : SI w (vcut v 0 k) (cs.take k) := by
  have := SV.cut (l := 0) (h := k) h (Nat.zero_le _) (by rw [ints_len]; exact hk)
  simpa [SI, ints, List.map_take] using this
theorem rises_lt {xs : List Int} {n : Int} (h : rises xs n) : ∀ x ∈ xs, 0 ≤ x ∧ x < n := by
  intro x hx
  obtain ⟨i, hi, rfl⟩ := List.mem_iff_getElem.1 hx
  have := h i hi
  rw [getD_lt hi] at this
  exact ⟨this.1, this.2.1⟩
theorem kn_yes {cs : List Int} {k : Nat} (hk : k < cs.length) (h : cs[k] ∈ cs.take k) : kn cs (k + 1) = kn cs k := by
  conv => lhs; unfold kn
  rw [getD_lt hk, if_pos h]
theorem kn_no {cs : List Int} {k : Nat} (hk : k < cs.length) (h : cs[k] ∉ cs.take k) : kn cs (k + 1) = kn cs k + 1 := by
  conv => lhs; unfold kn
  rw [getD_lt hk, if_neg h]
def rnp (cs : List Int) : Nat → Nat
  | 0 => 0
  | k + 1 => rn cs k
def mx (cs : List Int) : Nat → Nat
  | 0 => 0
  | k + 1 => max (mx cs k) (rn cs k)
theorem mx_le (cs : List Int) : ∀ k, mx cs k ≤ k
  | 0 => Nat.le_refl _
  | k + 1 => by have := mx_le cs k; have := rn_le cs k; unfold mx; omega
theorem rnp_le (cs : List Int) : ∀ k, rnp cs k ≤ k
  | 0 => Nat.le_refl _
  | k + 1 => rn_le cs k
theorem mx_runs {m : Mk} {cs : List Int} : ∀ k, ((mx cs k : Nat) : Int) ≤ m.sm ∧ 0 ≤ m.sm ↔ runs m cs k ∧ 0 ≤ m.sm
  | 0 => ⟨fun h => ⟨fun i hi => absurd hi (Nat.not_lt_zero i), h.2⟩, fun h => ⟨h.2, h.2⟩⟩
  | k + 1 => by
    have ih := mx_runs (m := m) (cs := cs) k
    constructor
    · rintro ⟨h, h0⟩
      unfold mx at h
      obtain ⟨h1, _⟩ := ih.1 ⟨by omega, h0⟩
      exact ⟨all_succ h1 (by omega), h0⟩
    · rintro ⟨h, h0⟩
      have h1 := (ih.2 ⟨fun i hi => h i (by omega), h0⟩).1
      have h2 := h k (by omega)
      unfold mx
      exact ⟨by omega, h0⟩
theorem rn_same {cs : List Int} {k : Nat} (h : 0 < k → cs.getD k 0 = cs.getD (k - 1) 0) : rn cs k = rnp cs k + 1 := by
  cases k with
  | zero => rfl
  | succ k =>
    have := h (by omega)
    rw [Nat.add_sub_cancel] at this
    conv => lhs; unfold rn
    rw [if_pos this]; rfl
theorem rn_new {cs : List Int} {k : Nat} (h0 : 0 < k) (h : cs.getD k 0 ≠ cs.getD (k - 1) 0) : rn cs k = 1 := by
  cases k with
  | zero => rfl
  | succ k =>
    rw [Nat.add_sub_cancel] at h
    conv => lhs; unfold rn
    rw [if_neg h]
theorem rn_take {cs : List Int} {k : Nat} : ∀ i, i < k → rn (cs.take k) i = rn cs i
  | 0, _ => rfl
  | i + 1, h => by
    unfold rn
    rw [getD_take h, getD_take (by omega : i < k), rn_take i (by omega)]

theorem l01Abs_any {w : World} {n : Int} (h : -9223372036854775807 ≤ n ∧ n ≤ 9223372036854775807) :
    Does Try.prog 104 #[.int .i64 n] w (fun r w' => r = .int .i64 (max n (-n)) ∧ w = w') := by
  refine enter Try.func104 rfl 7 Try.ntmps104 rfl (by kernel_rfl) ?_
  refine CW.seq ?_
  refine CW.region ?_
  refine RL.y rfl (y_asg rfl) ?_
  refine RL.nil ?_
  refine Fin.next ?_
  refine CW.seq ?_
  refine CW.region ?_
  refine RL.y rfl (y_mov (v := .int _ _) rfl) ?_
  refine RL.y rfl (y_mov (v := .int _ _) rfl) ?_
  refine RL.y rfl (y_neg rfl (IntWalk.i64_in _ (by omega))) ?_
  refine RL.y rfl (y_max rfl rfl) ?_
  refine RL.y rfl (y_asg (v := .int _ _) rfl) ?_
  refine RL.nil ?_
  refine Fin.next ?_
  refine CW.ret ?_
  refine Fin.ret1 rfl (by conv => lhs; whnf) ?_
  exact ⟨_, rfl, by rw [Int.zero_sub], rfl⟩

theorem absolute_any {w : World} {n : Int} (h : -9223372036854775807 ≤ n ∧ n ≤ 9223372036854775807) :
    Does Try.prog 107 #[.int .i64 n] w (fun r w' => r = .int .i64 (max n (-n)) ∧ w = w') := by
  refine enter Try.func107 rfl 7 Try.ntmps107 rfl (by kernel_rfl) ?_
  refine CW.seq ?_
  refine CW.region ?_
  refine RL.y rfl (y_asg rfl) ?_
  refine RL.nil ?_
  refine Fin.next ?_
  refine CW.seq ?_
  refine CW.region ?_
  refine RL.y rfl (y_mov (v := .int _ _) rfl) ?_
  refine RL.y rfl (y_mov (v := .int _ _) rfl) ?_
  refine RL.y rfl (y_neg rfl (IntWalk.i64_in _ (by omega))) ?_
  refine RL.y rfl (y_max rfl rfl) ?_
  refine RL.y rfl (y_asg (v := .int _ _) rfl) ?_
  refine RL.nil ?_
  refine Fin.next ?_
  refine CW.ret ?_
  refine Fin.ret1 rfl (by conv => lhs; whnf) ?_
  exact ⟨_, rfl, by rw [Int.zero_sub], rfl⟩

theorem l01Has_any {w : World} {v : Value} {xs : List Int} {x : Int} (hv : SI w v xs) :
    Does Try.prog 118 #[v, .int .i64 x] w (fun r w' => r = .bool (decide (x ∈ xs)) ∧ w = w') := by
  have hxl := SI.le hv
  refine enter Try.func118 rfl 18 Try.ntmps118 rfl (by kernel_rfl) ?_
  refine CW.seq ?_
  refine CW.region ?_
  refine RL.y rfl (y_asg rfl) ?_
  refine RL.nil ?_
  refine Fin.next ?_
  refine CW.seq ?_
  refine CW.seq ?_
  refine CW.region ?_
  refine RL.y rfl (y_asg rfl) ?_
  refine RL.nil ?_
  refine Fin.next ?_
  refine CW.block ?_
  refine CW.loop (fun m E w' => ∃ k : Nat, m = xs.length - k ∧ k ≤ xs.length ∧ agrees E [(0, v), (1, .int .i64 x), (5, .int .i64 (k : Int))] ∧ (x ∉ xs.take k) ∧ w = w') _ ⟨0, rfl, Nat.zero_le _, ⟨rfl, rfl, rfl, trivial⟩, by simp, rfl⟩ ?_
  · rintro m E w2 ⟨k, rfl, hkk, hagk, hno, rfl⟩
    refine CW.re _ hagk rfl ?_
    clear hagk
    refine CW.seq ?_
    refine CW.seq ?_
    refine CW.region ?_
    refine RL.y rfl (y_mov (v := .int _ _) rfl) ?_
    refine RL.y rfl (y_mov (by conv => lhs; whnf)) ?_
    refine RL.y rfl (y_len sT29 hv (ints_len _) rfl) ?_
    refine RL.y rfl (y_lt rfl rfl) ?_
    refine RL.nil ?_
    refine Fin.next ?_
    refine CW.cond rfl rfl (fun hck => ?_) (fun hck => ?_)
    · with_reducible first | (replace hck := deNF hck) | (replace hck := of_decide_eq_true hck) | (replace hck := of_decide_eq_false hck) | (replace hck := deNT hck) | (replace hck := deNN hck) | (replace hck := bnT hck) | (replace hck := bnF hck) | skip
      have hltk : k < xs.length := by omega
      refine CW.skip ?_
      refine Fin.next ?_
      refine CW.seq ?_
      refine CW.block ?_
      refine CW.seq ?_
      refine CW.region ?_
      refine RL.y rfl (y_mov (by conv => lhs; whnf)) ?_
      refine RL.y rfl (y_mov (v := .int _ _) rfl) ?_
      refine RL.y rfl (y_ixa sT29 (eqw (hv)) (k := k) (ints_lt hltk) rfl rfl) ?_
      refine RL.y rfl (y_load sc2 (eqw (hv)) (ints_at hltk) rfl) ?_
      refine RL.y rfl (y_mov (v := .int _ _) rfl) ?_
      refine RL.y rfl (y_eq rfl rfl) ?_
      refine RL.nil ?_
      refine Fin.next ?_
      refine CW.cond rfl rfl (fun h1 => ?_) (fun h1 => ?_)
      · with_reducible first | (replace h1 := deNF h1) | (replace h1 := of_decide_eq_true h1) | (replace h1 := of_decide_eq_false h1) | (replace h1 := deNT h1) | (replace h1 := deNN h1) | (replace h1 := bnT h1) | (replace h1 := bnF h1) | skip
        refine CW.seq ?_
        refine CW.region ?_
        refine RL.y rfl (y_asg rfl) ?_
        refine RL.nil ?_
        refine Fin.next ?_
        refine CW.ret ?_
        refine Fin.blockRet ?_
        refine Fin.thenRet ?_
        refine Fin.thenRet ?_
        refine Fin.blockRet ?_
        refine Fin.thenRet ?_
        refine Fin.ret1 rfl (by conv => lhs; whnf) ?_
        exact ⟨_, rfl, bT (h1 ▸ List.getElem_mem hltk), rfl⟩
      · with_reducible first | (replace h1 := deNF h1) | (replace h1 := of_decide_eq_true h1) | (replace h1 := of_decide_eq_false h1) | (replace h1 := deNT h1) | (replace h1 := deNN h1) | (replace h1 := bnT h1) | (replace h1 := bnF h1) | skip
        refine CW.skip ?_
        refine Fin.blockNormal ?_
        refine Fin.next ?_
        refine CW.region ?_
        refine RL.y rfl (y_mov (v := .int _ _) rfl) ?_
        refine RL.y rfl (y_add rfl rfl (IntWalk.i64_in _ (by omega))) ?_
        refine RL.y rfl (y_asg (v := .int _ _) rfl) ?_
        refine RL.nil ?_
        refine Fin.le ?_
        exact ⟨xs.length - (k + 1), by omega, k + 1, rfl, hltk, ⟨rfl, rfl, rfl, trivial⟩, (by rw [List.take_succ_eq_append_getElem hltk, List.mem_append, List.mem_singleton]; rintro (h | h); exact hno h; exact h1 h.symm), rfl⟩
    · with_reducible first | (replace hck := deNF hck) | (replace hck := of_decide_eq_true hck) | (replace hck := of_decide_eq_false hck) | (replace hck := deNT hck) | (replace hck := deNN hck) | (replace hck := bnT hck) | (replace hck := bnF hck) | skip
      obtain rfl : xs.length = k := by omega
      rw [List.take_length] at hno
      refine CW.exit ?_
      refine Fin.thenExit ?_
      refine Fin.thenExit ?_
      refine Fin.blockHit ?_
      refine Fin.next ?_
      refine CW.seq ?_
      refine CW.region ?_
      refine RL.y rfl (y_asg rfl) ?_
      refine RL.nil ?_
      refine Fin.next ?_
      refine CW.ret ?_
      refine Fin.ret1 rfl (by conv => lhs; whnf) ?_
      exact ⟨_, rfl, bF hno, rfl⟩

theorem IndexI_any {w : World} {v : Value} {xs : List Int} {x : Int} (hv : SI w v xs) :
    Does Try.prog 116 #[v, .int .i64 x] w (fun r w' => ∃ i : Int, r = .int .i64 i ∧ (0 ≤ i ↔ x ∈ xs) ∧ w = w') := by
  have hxl := SI.le hv
  refine enter Try.func116 rfl 19 Try.ntmps116 rfl (by kernel_rfl) ?_
  refine CW.seq ?_
  refine CW.region ?_
  refine RL.y rfl (y_asg rfl) ?_
  refine RL.nil ?_
  refine Fin.next ?_
  refine CW.seq ?_
  refine CW.seq ?_
  refine CW.region ?_
  refine RL.y rfl (y_mov (by conv => lhs; whnf)) ?_
  refine RL.y rfl (y_len sT29 hv (ints_len _) rfl) ?_
  refine RL.y rfl (y_mov rfl) ?_
  refine RL.nil ?_
  refine Fin.next ?_
  refine CW.block ?_
  refine CW.loop (fun m E w' => ∃ k : Nat, m = xs.length - k ∧ k ≤ xs.length ∧ agrees E [(0, v), (1, .int .i64 x), (7, .int .i64 xs.length), (8, .int .i64 (k : Int))] ∧ (x ∉ xs.take k) ∧ w = w') _ ⟨0, rfl, Nat.zero_le _, ⟨rfl, rfl, rfl, rfl, trivial⟩, by simp, rfl⟩ ?_
  · rintro m E w2 ⟨k, rfl, hkk, hagk, hno, rfl⟩
    refine CW.re _ hagk rfl ?_
    clear hagk
    refine CW.seq ?_
    refine CW.region ?_
    refine RL.y rfl (y_lt rfl rfl) ?_
    refine RL.nil ?_
    refine Fin.next ?_
    refine CW.seq ?_
    refine CW.cond rfl rfl (fun hck => ?_) (fun hck => ?_)
    · with_reducible first | (replace hck := deNF hck) | (replace hck := of_decide_eq_true hck) | (replace hck := of_decide_eq_false hck) | (replace hck := deNT hck) | (replace hck := deNN hck) | (replace hck := bnT hck) | (replace hck := bnF hck) | skip
      have hltk : k < xs.length := by omega
      refine CW.skip ?_
      refine Fin.next ?_
      refine CW.seq ?_
      refine CW.block ?_
      refine CW.seq ?_
      refine CW.region ?_
      refine RL.y rfl (y_mov (v := .int _ _) rfl) ?_
      refine RL.y rfl (y_asg (v := .int _ _) rfl) ?_
      refine RL.nil ?_
      refine Fin.next ?_
      refine CW.seq ?_
      refine CW.region ?_
      refine RL.y rfl (y_mov (v := .int _ _) rfl) ?_
      refine RL.y rfl (y_mov (by conv => lhs; whnf)) ?_
      refine RL.y rfl (y_mov (v := .int _ _) rfl) ?_
      refine RL.y rfl (y_ixa sT29 (eqw (hv)) (k := k) (ints_lt hltk) rfl rfl) ?_
      refine RL.y rfl (y_load sc2 (eqw (hv)) (ints_at hltk) rfl) ?_
      refine RL.y rfl (y_eq rfl rfl) ?_
      refine RL.nil ?_
      refine Fin.next ?_
      refine CW.cond rfl rfl (fun h1 => ?_) (fun h1 => ?_)
      · with_reducible first | (replace h1 := deNF h1) | (replace h1 := of_decide_eq_true h1) | (replace h1 := of_decide_eq_false h1) | (replace h1 := deNT h1) | (replace h1 := deNN h1) | (replace h1 := bnT h1) | (replace h1 := bnF h1) | skip
        refine CW.seq ?_
        refine CW.region ?_
        refine RL.y rfl (y_mov (v := .int _ _) rfl) ?_
        refine RL.y rfl (y_asg (v := .int _ _) rfl) ?_
        refine RL.nil ?_
        refine Fin.next ?_
        refine CW.ret ?_
        refine Fin.blockRet ?_
        refine Fin.thenRet ?_
        refine Fin.thenRet ?_
        refine Fin.blockRet ?_
        refine Fin.thenRet ?_
        refine Fin.ret1 rfl (by conv => lhs; whnf) ?_
        exact ⟨_, rfl, _, rfl, ⟨fun _ => h1 ▸ List.getElem_mem hltk, fun _ => by omega⟩, rfl⟩
      · with_reducible first | (replace h1 := deNF h1) | (replace h1 := of_decide_eq_true h1) | (replace h1 := of_decide_eq_false h1) | (replace h1 := deNT h1) | (replace h1 := deNN h1) | (replace h1 := bnT h1) | (replace h1 := bnF h1) | skip
        refine CW.skip ?_
        refine Fin.blockNormal ?_
        refine Fin.next ?_
        refine CW.region ?_
        refine RL.y rfl (y_add rfl rfl (IntWalk.i64_in _ (by omega))) ?_
        refine RL.y rfl (y_mov (v := .int _ _) rfl) ?_
        refine RL.nil ?_
        refine Fin.le ?_
        exact ⟨xs.length - (k + 1), by omega, k + 1, rfl, hltk, ⟨rfl, rfl, rfl, rfl, trivial⟩, (by rw [List.take_succ_eq_append_getElem hltk, List.mem_append, List.mem_singleton]; rintro (h | h); exact hno h; exact h1 h), rfl⟩
    · with_reducible first | (replace hck := deNF hck) | (replace hck := of_decide_eq_true hck) | (replace hck := of_decide_eq_false hck) | (replace hck := deNT hck) | (replace hck := deNN hck) | (replace hck := bnT hck) | (replace hck := bnF hck) | skip
      obtain rfl : xs.length = k := by omega
      rw [List.take_length] at hno
      refine CW.exit ?_
      refine Fin.thenExit ?_
      refine Fin.thenExit ?_
      refine Fin.blockHit ?_
      refine Fin.next ?_
      refine CW.seq ?_
      refine CW.region ?_
      refine RL.y rfl (y_asg rfl) ?_
      refine RL.nil ?_
      refine Fin.next ?_
      refine CW.ret ?_
      refine Fin.ret1 rfl (by conv => lhs; whnf) ?_
      exact ⟨_, rfl, _, rfl, ⟨fun h => by omega, fun h => absurd h hno⟩, rfl⟩

theorem ContainsI_any {w : World} {v : Value} {xs : List Int} {x : Int} (hv : SI w v xs) :
    Does Try.prog 96 #[v, .int .i64 x] w (fun r w' => r = .bool (decide (x ∈ xs)) ∧ w = w') := by
  refine enter Try.func96 rfl 9 Try.ntmps96 rfl (by kernel_rfl) ?_
  refine CW.seq ?_
  refine CW.region ?_
  refine RL.y rfl (y_asg rfl) ?_
  refine RL.nil ?_
  refine Fin.next ?_
  refine CW.seq ?_
  refine CW.region ?_
  refine RL.y rfl (y_mov (by conv => lhs; whnf)) ?_
  refine RL.y rfl (y_mov (v := .int _ _) rfl) ?_
  refine RL.call rfl (IndexI_any hv) ?_
  rintro r w2 ⟨i, rfl, hi, rfl⟩
  refine RL.y rfl (y_ge rfl rfl) ?_
  refine RL.y rfl (y_asg (v := .bool _) rfl) ?_
  refine RL.nil ?_
  refine Fin.next ?_
  refine CW.ret ?_
  refine Fin.ret1 rfl (by conv => lhs; whnf) ?_
  exact ⟨_, rfl, bD hi, rfl⟩

theorem specIsMaker_any {w : World} {q : Mk} :
    Does Try.prog 90 #[mkA q] w (fun r w' => r = .bool (decide (mkOk q)) ∧ Ext w w') := by
  refine enter Try.func90 rfl 36 Try.ntmps90 rfl (by kernel_rfl) ?_
  refine CW.seq ?_
  refine CW.region ?_
  refine RL.box (cs := [.int .i64 q.ch, .int .i64 q.dp, .int .i64 q.st, .int .i64 q.sm, .int .i64 q.le]) rfl rfl rfl (fun w1 hV hE => ?_)
  refine RL.y rfl (y_asg rfl) ?_
  refine RL.nil ?_
  refine Fin.next ?_
  refine CW.seq ?_
  refine CW.region ?_
  refine RL.y rfl (y_fa fa25_0 rfl rfl) ?_
  refine RL.y rfl (y_loadv sc2 (eqw (hV)) rfl rfl) ?_
  refine RL.call rfl (l01In_any) ?_
  rintro r w2 ⟨rfl, rfl⟩
  refine RL.y rfl (y_mov (v := .bool _) rfl) ?_
  refine RL.split (t := 6) rfl rfl (fun h1 => ?_) (fun h1 => ?_)
  · with_reducible first | (replace h1 := deNF h1) | (replace h1 := of_decide_eq_true h1) | (replace h1 := of_decide_eq_false h1) | (replace h1 := deNT h1) | (replace h1 := deNN h1) | (replace h1 := bnT h1) | (replace h1 := bnF h1) | skip
    refine RL.take (t := 6) rfl rfl rfl ?_
    refine RL.y rfl (y_fa fa25_1 rfl rfl) ?_
    refine RL.take (t := 6) rfl rfl rfl ?_
    refine RL.y rfl (y_loadv sc2 (eqw (hV)) rfl rfl) ?_
    refine RL.take (t := 6) rfl rfl rfl ?_
    refine RL.call rfl (l01In_any) ?_
    rintro r w2 ⟨rfl, rfl⟩
    refine RL.y rfl (y_pickT (v := .bool _) rfl rfl) ?_
    refine RL.y rfl (y_mov (v := .bool _) rfl) ?_
    refine RL.split (t := 11) rfl rfl (fun h2 => ?_) (fun h2 => ?_)
    · with_reducible first | (replace h2 := deNF h2) | (replace h2 := of_decide_eq_true h2) | (replace h2 := of_decide_eq_false h2) | (replace h2 := deNT h2) | (replace h2 := deNN h2) | (replace h2 := bnT h2) | (replace h2 := bnF h2) | skip
      refine RL.take (t := 11) rfl rfl rfl ?_
      refine RL.y rfl (y_fa fa25_2 rfl rfl) ?_
      refine RL.take (t := 11) rfl rfl rfl ?_
      refine RL.y rfl (y_loadv sc2 (eqw (hV)) rfl rfl) ?_
      refine RL.take (t := 11) rfl rfl rfl ?_
      refine RL.y rfl (y_fa fa25_1 rfl rfl) ?_
      refine RL.take (t := 11) rfl rfl rfl ?_
      refine RL.y rfl (y_loadv sc2 (eqw (hV)) rfl rfl) ?_
      refine RL.take (t := 11) rfl rfl rfl ?_
      refine RL.y rfl (y_sub rfl rfl (IntWalk.i64_in _ (by omega))) ?_
      refine RL.take (t := 11) rfl rfl rfl ?_
      refine RL.call rfl (l01In_any) ?_
      rintro r w2 ⟨rfl, rfl⟩
      refine RL.y rfl (y_pickT (v := .bool _) rfl rfl) ?_
      refine RL.y rfl (y_mov (v := .bool _) rfl) ?_
      refine RL.split (t := 19) rfl rfl (fun h3 => ?_) (fun h3 => ?_)
      · with_reducible first | (replace h3 := deNF h3) | (replace h3 := of_decide_eq_true h3) | (replace h3 := of_decide_eq_false h3) | (replace h3 := deNT h3) | (replace h3 := deNN h3) | (replace h3 := bnT h3) | (replace h3 := bnF h3) | skip
        refine RL.take (t := 19) rfl rfl rfl ?_
        refine RL.y rfl (y_fa fa25_3 rfl rfl) ?_
        refine RL.take (t := 19) rfl rfl rfl ?_
        refine RL.y rfl (y_loadv sc2 (eqw (hV)) rfl rfl) ?_
        refine RL.take (t := 19) rfl rfl rfl ?_
        refine RL.y rfl (y_fa fa25_0 rfl rfl) ?_
        refine RL.take (t := 19) rfl rfl rfl ?_
        refine RL.y rfl (y_loadv sc2 (eqw (hV)) rfl rfl) ?_
        refine RL.take (t := 19) rfl rfl rfl ?_
        refine RL.call rfl (l01In_any) ?_
        rintro r w2 ⟨rfl, rfl⟩
        refine RL.y rfl (y_pickT (v := .bool _) rfl rfl) ?_
        refine RL.y rfl (y_mov (v := .bool _) rfl) ?_
        refine RL.split (t := 26) rfl rfl (fun h4 => ?_) (fun h4 => ?_)
        · with_reducible first | (replace h4 := deNF h4) | (replace h4 := of_decide_eq_true h4) | (replace h4 := of_decide_eq_false h4) | (replace h4 := deNT h4) | (replace h4 := deNN h4) | (replace h4 := bnT h4) | (replace h4 := bnF h4) | skip
          refine RL.take (t := 26) rfl rfl rfl ?_
          refine RL.y rfl (y_fa fa25_4 rfl rfl) ?_
          refine RL.take (t := 26) rfl rfl rfl ?_
          refine RL.y rfl (y_loadv sc2 (eqw (hV)) rfl rfl) ?_
          refine RL.take (t := 26) rfl rfl rfl ?_
          refine RL.y rfl (y_fa fa25_0 rfl rfl) ?_
          refine RL.take (t := 26) rfl rfl rfl ?_
          refine RL.y rfl (y_loadv sc2 (eqw (hV)) rfl rfl) ?_
          refine RL.take (t := 26) rfl rfl rfl ?_
          refine RL.y rfl (y_fa fa25_1 rfl rfl) ?_
          refine RL.take (t := 26) rfl rfl rfl ?_
          refine RL.y rfl (y_loadv sc2 (eqw (hV)) rfl rfl) ?_
          refine RL.take (t := 26) rfl rfl rfl ?_
          refine RL.y rfl (y_min rfl rfl) ?_
          refine RL.take (t := 26) rfl rfl rfl ?_
          refine RL.call rfl (l01In_any) ?_
          rintro r w2 ⟨rfl, rfl⟩
          refine RL.y rfl (y_pickT (v := .bool _) rfl rfl) ?_
          refine RL.y rfl (y_asg (v := .bool _) rfl) ?_
          refine RL.nil ?_
          refine Fin.next ?_
          refine CW.ret ?_
          refine Fin.ret1 rfl (by conv => lhs; whnf) ?_
          exact ⟨_, rfl, bD ⟨fun h => ⟨h1, h2, h3, h4, h⟩, fun h => h.2.2.2.2⟩, hE⟩
        · with_reducible first | (replace h4 := deNF h4) | (replace h4 := of_decide_eq_true h4) | (replace h4 := of_decide_eq_false h4) | (replace h4 := deNT h4) | (replace h4 := deNN h4) | (replace h4 := bnT h4) | (replace h4 := bnF h4) | skip
          refine RL.pass (t := 26) rfl rfl rfl rfl ?_
          refine RL.pass (t := 26) rfl rfl rfl rfl ?_
          refine RL.pass (t := 26) rfl rfl rfl rfl ?_
          refine RL.pass (t := 26) rfl rfl rfl rfl ?_
          refine RL.pass (t := 26) rfl rfl rfl rfl ?_
          refine RL.pass (t := 26) rfl rfl rfl rfl ?_
          refine RL.pass (t := 26) rfl rfl rfl rfl ?_
          refine RL.pass (t := 26) rfl rfl rfl rfl ?_
          refine RL.y rfl (y_pickF (v := .bool _) rfl rfl) ?_
          refine RL.y rfl (y_asg (v := .bool _) rfl) ?_
          refine RL.nil ?_
          refine Fin.next ?_
          refine CW.ret ?_
          refine Fin.ret1 rfl (by conv => lhs; whnf) ?_
          exact ⟨_, rfl, bF (fun h => h4 h.2.2.2.1), hE⟩
      · with_reducible first | (replace h3 := deNF h3) | (replace h3 := of_decide_eq_true h3) | (replace h3 := of_decide_eq_false h3) | (replace h3 := deNT h3) | (replace h3 := deNN h3) | (replace h3 := bnT h3) | (replace h3 := bnF h3) | skip
        refine RL.pass (t := 19) rfl rfl rfl rfl ?_
        refine RL.pass (t := 19) rfl rfl rfl rfl ?_
        refine RL.pass (t := 19) rfl rfl rfl rfl ?_
        refine RL.pass (t := 19) rfl rfl rfl rfl ?_
        refine RL.pass (t := 19) rfl rfl rfl rfl ?_
        refine RL.y rfl (y_pickF (v := .bool _) rfl rfl) ?_
        refine RL.y rfl (y_mov (v := .bool _) rfl) ?_
        refine RL.pass (t := 26) rfl rfl rfl rfl ?_
        refine RL.pass (t := 26) rfl rfl rfl rfl ?_
        refine RL.pass (t := 26) rfl rfl rfl rfl ?_
        refine RL.pass (t := 26) rfl rfl rfl rfl ?_
        refine RL.pass (t := 26) rfl rfl rfl rfl ?_
        refine RL.pass (t := 26) rfl rfl rfl rfl ?_
        refine RL.pass (t := 26) rfl rfl rfl rfl ?_
        refine RL.pass (t := 26) rfl rfl rfl rfl ?_
        refine RL.y rfl (y_pickF (v := .bool _) rfl rfl) ?_
        refine RL.y rfl (y_asg (v := .bool _) rfl) ?_
        refine RL.nil ?_
        refine Fin.next ?_
        refine CW.ret ?_
        refine Fin.ret1 rfl (by conv => lhs; whnf) ?_
        exact ⟨_, rfl, bF (fun h => h3 h.2.2.1), hE⟩
    · with_reducible first | (replace h2 := deNF h2) | (replace h2 := of_decide_eq_true h2) | (replace h2 := of_decide_eq_false h2) | (replace h2 := deNT h2) | (replace h2 := deNN h2) | (replace h2 := bnT h2) | (replace h2 := bnF h2) | skip
      refine RL.pass (t := 11) rfl rfl rfl rfl ?_
      refine RL.pass (t := 11) rfl rfl rfl rfl ?_
      refine RL.pass (t := 11) rfl rfl rfl rfl ?_
      refine RL.pass (t := 11) rfl rfl rfl rfl ?_
      refine RL.pass (t := 11) rfl rfl rfl rfl ?_
      refine RL.pass (t := 11) rfl rfl rfl rfl ?_
      refine RL.y rfl (y_pickF (v := .bool _) rfl rfl) ?_
      refine RL.y rfl (y_mov (v := .bool _) rfl) ?_
      refine RL.pass (t := 19) rfl rfl rfl rfl ?_
      refine RL.pass (t := 19) rfl rfl rfl rfl ?_
      refine RL.pass (t := 19) rfl rfl rfl rfl ?_
      refine RL.pass (t := 19) rfl rfl rfl rfl ?_
      refine RL.pass (t := 19) rfl rfl rfl rfl ?_
      refine RL.y rfl (y_pickF (v := .bool _) rfl rfl) ?_
      refine RL.y rfl (y_mov (v := .bool _) rfl) ?_
      refine RL.pass (t := 26) rfl rfl rfl rfl ?_
      refine RL.pass (t := 26) rfl rfl rfl rfl ?_
      refine RL.pass (t := 26) rfl rfl rfl rfl ?_
      refine RL.pass (t := 26) rfl rfl rfl rfl ?_
      refine RL.pass (t := 26) rfl rfl rfl rfl ?_
      refine RL.pass (t := 26) rfl rfl rfl rfl ?_
      refine RL.pass (t := 26) rfl rfl rfl rfl ?_
      refine RL.pass (t := 26) rfl rfl rfl rfl ?_
      refine RL.y rfl (y_pickF (v := .bool _) rfl rfl) ?_
      refine RL.y rfl (y_asg (v := .bool _) rfl) ?_
      refine RL.nil ?_
      refine Fin.next ?_
      refine CW.ret ?_
      refine Fin.ret1 rfl (by conv => lhs; whnf) ?_
      exact ⟨_, rfl, bF (fun h => h2 h.2.1), hE⟩
  · with_reducible first | (replace h1 := deNF h1) | (replace h1 := of_decide_eq_true h1) | (replace h1 := of_decide_eq_false h1) | (replace h1 := deNT h1) | (replace h1 := deNN h1) | (replace h1 := bnT h1) | (replace h1 := bnF h1) | skip
    refine RL.pass (t := 6) rfl rfl rfl rfl ?_
    refine RL.pass (t := 6) rfl rfl rfl rfl ?_
    refine RL.pass (t := 6) rfl rfl rfl rfl ?_
    refine RL.y rfl (y_pickF (v := .bool _) rfl rfl) ?_
    refine RL.y rfl (y_mov (v := .bool _) rfl) ?_
    refine RL.pass (t := 11) rfl rfl rfl rfl ?_
    refine RL.pass (t := 11) rfl rfl rfl rfl ?_
    refine RL.pass (t := 11) rfl rfl rfl rfl ?_
    refine RL.pass (t := 11) rfl rfl rfl rfl ?_
    refine RL.pass (t := 11) rfl rfl rfl rfl ?_
    refine RL.pass (t := 11) rfl rfl rfl rfl ?_
    refine RL.y rfl (y_pickF (v := .bool _) rfl rfl) ?_
    refine RL.y rfl (y_mov (v := .bool _) rfl) ?_
    refine RL.pass (t := 19) rfl rfl rfl rfl ?_
    refine RL.pass (t := 19) rfl rfl rfl rfl ?_
    refine RL.pass (t := 19) rfl rfl rfl rfl ?_
    refine RL.pass (t := 19) rfl rfl rfl rfl ?_
    refine RL.pass (t := 19) rfl rfl rfl rfl ?_
    refine RL.y rfl (y_pickF (v := .bool _) rfl rfl) ?_
    refine RL.y rfl (y_mov (v := .bool _) rfl) ?_
    refine RL.pass (t := 26) rfl rfl rfl rfl ?_
    refine RL.pass (t := 26) rfl rfl rfl rfl ?_
    refine RL.pass (t := 26) rfl rfl rfl rfl ?_
    refine RL.pass (t := 26) rfl rfl rfl rfl ?_
    refine RL.pass (t := 26) rfl rfl rfl rfl ?_
    refine RL.pass (t := 26) rfl rfl rfl rfl ?_
    refine RL.pass (t := 26) rfl rfl rfl rfl ?_
    refine RL.pass (t := 26) rfl rfl rfl rfl ?_
    refine RL.y rfl (y_pickF (v := .bool _) rfl rfl) ?_
    refine RL.y rfl (y_asg (v := .bool _) rfl) ?_
    refine RL.nil ?_
    refine Fin.next ?_
    refine CW.ret ?_
    refine Fin.ret1 rfl (by conv => lhs; whnf) ?_
    exact ⟨_, rfl, bF (fun h => h1 h.1), hE⟩

theorem implIsMaker_any {w : World} {q : Mk} :
    Does Try.prog 101 #[mkA q] w (fun r w' => r = .bool (decide (mkOk q)) ∧ Ext w w') := by
  refine enter Try.func101 rfl 36 Try.ntmps101 rfl (by kernel_rfl) ?_
  refine CW.seq ?_
  refine CW.region ?_
  refine RL.box (cs := [.int .i64 q.ch, .int .i64 q.dp, .int .i64 q.st, .int .i64 q.sm, .int .i64 q.le]) rfl rfl rfl (fun w1 hV hE => ?_)
  refine RL.y rfl (y_asg rfl) ?_
  refine RL.nil ?_
  refine Fin.next ?_
  refine CW.seq ?_
  refine CW.region ?_
  refine RL.y rfl (y_fa fa25_0 rfl rfl) ?_
  refine RL.y rfl (y_loadv sc2 (eqw (hV)) rfl rfl) ?_
  refine RL.call rfl (within_any) ?_
  rintro r w2 ⟨rfl, rfl⟩
  refine RL.y rfl (y_mov (v := .bool _) rfl) ?_
  refine RL.split (t := 6) rfl rfl (fun h1 => ?_) (fun h1 => ?_)
  · with_reducible first | (replace h1 := deNF h1) | (replace h1 := of_decide_eq_true h1) | (replace h1 := of_decide_eq_false h1) | (replace h1 := deNT h1) | (replace h1 := deNN h1) | (replace h1 := bnT h1) | (replace h1 := bnF h1) | skip
    refine RL.take (t := 6) rfl rfl rfl ?_
    refine RL.y rfl (y_fa fa25_1 rfl rfl) ?_
    refine RL.take (t := 6) rfl rfl rfl ?_
    refine RL.y rfl (y_loadv sc2 (eqw (hV)) rfl rfl) ?_
    refine RL.take (t := 6) rfl rfl rfl ?_
    refine RL.call rfl (within_any) ?_
    rintro r w2 ⟨rfl, rfl⟩
    refine RL.y rfl (y_pickT (v := .bool _) rfl rfl) ?_
    refine RL.y rfl (y_mov (v := .bool _) rfl) ?_
    refine RL.split (t := 11) rfl rfl (fun h2 => ?_) (fun h2 => ?_)
    · with_reducible first | (replace h2 := deNF h2) | (replace h2 := of_decide_eq_true h2) | (replace h2 := of_decide_eq_false h2) | (replace h2 := deNT h2) | (replace h2 := deNN h2) | (replace h2 := bnT h2) | (replace h2 := bnF h2) | skip
      refine RL.take (t := 11) rfl rfl rfl ?_
      refine RL.y rfl (y_fa fa25_2 rfl rfl) ?_
      refine RL.take (t := 11) rfl rfl rfl ?_
      refine RL.y rfl (y_loadv sc2 (eqw (hV)) rfl rfl) ?_
      refine RL.take (t := 11) rfl rfl rfl ?_
      refine RL.y rfl (y_fa fa25_1 rfl rfl) ?_
      refine RL.take (t := 11) rfl rfl rfl ?_
      refine RL.y rfl (y_loadv sc2 (eqw (hV)) rfl rfl) ?_
      refine RL.take (t := 11) rfl rfl rfl ?_
      refine RL.y rfl (y_sub rfl rfl (IntWalk.i64_in _ (by omega))) ?_
      refine RL.take (t := 11) rfl rfl rfl ?_
      refine RL.call rfl (within_any) ?_
      rintro r w2 ⟨rfl, rfl⟩
      refine RL.y rfl (y_pickT (v := .bool _) rfl rfl) ?_
      refine RL.y rfl (y_mov (v := .bool _) rfl) ?_
      refine RL.split (t := 19) rfl rfl (fun h3 => ?_) (fun h3 => ?_)
      · with_reducible first | (replace h3 := deNF h3) | (replace h3 := of_decide_eq_true h3) | (replace h3 := of_decide_eq_false h3) | (replace h3 := deNT h3) | (replace h3 := deNN h3) | (replace h3 := bnT h3) | (replace h3 := bnF h3) | skip
        refine RL.take (t := 19) rfl rfl rfl ?_
        refine RL.y rfl (y_fa fa25_3 rfl rfl) ?_
        refine RL.take (t := 19) rfl rfl rfl ?_
        refine RL.y rfl (y_loadv sc2 (eqw (hV)) rfl rfl) ?_
        refine RL.take (t := 19) rfl rfl rfl ?_
        refine RL.y rfl (y_fa fa25_0 rfl rfl) ?_
        refine RL.take (t := 19) rfl rfl rfl ?_
        refine RL.y rfl (y_loadv sc2 (eqw (hV)) rfl rfl) ?_
        refine RL.take (t := 19) rfl rfl rfl ?_
        refine RL.call rfl (within_any) ?_
        rintro r w2 ⟨rfl, rfl⟩
        refine RL.y rfl (y_pickT (v := .bool _) rfl rfl) ?_
        refine RL.y rfl (y_mov (v := .bool _) rfl) ?_
        refine RL.split (t := 26) rfl rfl (fun h4 => ?_) (fun h4 => ?_)
        · with_reducible first | (replace h4 := deNF h4) | (replace h4 := of_decide_eq_true h4) | (replace h4 := of_decide_eq_false h4) | (replace h4 := deNT h4) | (replace h4 := deNN h4) | (replace h4 := bnT h4) | (replace h4 := bnF h4) | skip
          refine RL.take (t := 26) rfl rfl rfl ?_
          refine RL.y rfl (y_fa fa25_4 rfl rfl) ?_
          refine RL.take (t := 26) rfl rfl rfl ?_
          refine RL.y rfl (y_loadv sc2 (eqw (hV)) rfl rfl) ?_
          refine RL.take (t := 26) rfl rfl rfl ?_
          refine RL.y rfl (y_fa fa25_0 rfl rfl) ?_
          refine RL.take (t := 26) rfl rfl rfl ?_
          refine RL.y rfl (y_loadv sc2 (eqw (hV)) rfl rfl) ?_
          refine RL.take (t := 26) rfl rfl rfl ?_
          refine RL.y rfl (y_fa fa25_1 rfl rfl) ?_
          refine RL.take (t := 26) rfl rfl rfl ?_
          refine RL.y rfl (y_loadv sc2 (eqw (hV)) rfl rfl) ?_
          refine RL.take (t := 26) rfl rfl rfl ?_
          refine RL.y rfl (y_min rfl rfl) ?_
          refine RL.take (t := 26) rfl rfl rfl ?_
          refine RL.call rfl (within_any) ?_
          rintro r w2 ⟨rfl, rfl⟩
          refine RL.y rfl (y_pickT (v := .bool _) rfl rfl) ?_
          refine RL.y rfl (y_asg (v := .bool _) rfl) ?_
          refine RL.nil ?_
          refine Fin.next ?_
          refine CW.ret ?_
          refine Fin.ret1 rfl (by conv => lhs; whnf) ?_
          exact ⟨_, rfl, bD ⟨fun h => ⟨h1, h2, h3, h4, h⟩, fun h => h.2.2.2.2⟩, hE⟩
        · with_reducible first | (replace h4 := deNF h4) | (replace h4 := of_decide_eq_true h4) | (replace h4 := of_decide_eq_false h4) | (replace h4 := deNT h4) | (replace h4 := deNN h4) | (replace h4 := bnT h4) | (replace h4 := bnF h4) | skip
          refine RL.pass (t := 26) rfl rfl rfl rfl ?_
          refine RL.pass (t := 26) rfl rfl rfl rfl ?_
          refine RL.pass (t := 26) rfl rfl rfl rfl ?_
          refine RL.pass (t := 26) rfl rfl rfl rfl ?_
          refine RL.pass (t := 26) rfl rfl rfl rfl ?_
          refine RL.pass (t := 26) rfl rfl rfl rfl ?_
          refine RL.pass (t := 26) rfl rfl rfl rfl ?_
          refine RL.pass (t := 26) rfl rfl rfl rfl ?_
          refine RL.y rfl (y_pickF (v := .bool _) rfl rfl) ?_
          refine RL.y rfl (y_asg (v := .bool _) rfl) ?_
          refine RL.nil ?_
          refine Fin.next ?_
          refine CW.ret ?_
          refine Fin.ret1 rfl (by conv => lhs; whnf) ?_
          exact ⟨_, rfl, bF (fun h => h4 h.2.2.2.1), hE⟩
      · with_reducible first | (replace h3 := deNF h3) | (replace h3 := of_decide_eq_true h3) | (replace h3 := of_decide_eq_false h3) | (replace h3 := deNT h3) | (replace h3 := deNN h3) | (replace h3 := bnT h3) | (replace h3 := bnF h3) | skip
        refine RL.pass (t := 19) rfl rfl rfl rfl ?_
        refine RL.pass (t := 19) rfl rfl rfl rfl ?_
        refine RL.pass (t := 19) rfl rfl rfl rfl ?_
        refine RL.pass (t := 19) rfl rfl rfl rfl ?_
        refine RL.pass (t := 19) rfl rfl rfl rfl ?_
        refine RL.y rfl (y_pickF (v := .bool _) rfl rfl) ?_
        refine RL.y rfl (y_mov (v := .bool _) rfl) ?_
        refine RL.pass (t := 26) rfl rfl rfl rfl ?_
        refine RL.pass (t := 26) rfl rfl rfl rfl ?_
        refine RL.pass (t := 26) rfl rfl rfl rfl ?_
        refine RL.pass (t := 26) rfl rfl rfl rfl ?_
        refine RL.pass (t := 26) rfl rfl rfl rfl ?_
        refine RL.pass (t := 26) rfl rfl rfl rfl ?_
        refine RL.pass (t := 26) rfl rfl rfl rfl ?_
        refine RL.pass (t := 26) rfl rfl rfl rfl ?_
        refine RL.y rfl (y_pickF (v := .bool _) rfl rfl) ?_
        refine RL.y rfl (y_asg (v := .bool _) rfl) ?_
        refine RL.nil ?_
        refine Fin.next ?_
        refine CW.ret ?_
        refine Fin.ret1 rfl (by conv => lhs; whnf) ?_
        exact ⟨_, rfl, bF (fun h => h3 h.2.2.1), hE⟩
    · with_reducible first | (replace h2 := deNF h2) | (replace h2 := of_decide_eq_true h2) | (replace h2 := of_decide_eq_false h2) | (replace h2 := deNT h2) | (replace h2 := deNN h2) | (replace h2 := bnT h2) | (replace h2 := bnF h2) | skip
      refine RL.pass (t := 11) rfl rfl rfl rfl ?_
      refine RL.pass (t := 11) rfl rfl rfl rfl ?_
      refine RL.pass (t := 11) rfl rfl rfl rfl ?_
      refine RL.pass (t := 11) rfl rfl rfl rfl ?_
      refine RL.pass (t := 11) rfl rfl rfl rfl ?_
      refine RL.pass (t := 11) rfl rfl rfl rfl ?_
      refine RL.y rfl (y_pickF (v := .bool _) rfl rfl) ?_
      refine RL.y rfl (y_mov (v := .bool _) rfl) ?_
      refine RL.pass (t := 19) rfl rfl rfl rfl ?_
      refine RL.pass (t := 19) rfl rfl rfl rfl ?_
      refine RL.pass (t := 19) rfl rfl rfl rfl ?_
      refine RL.pass (t := 19) rfl rfl rfl rfl ?_
      refine RL.pass (t := 19) rfl rfl rfl rfl ?_
      refine RL.y rfl (y_pickF (v := .bool _) rfl rfl) ?_
      refine RL.y rfl (y_mov (v := .bool _) rfl) ?_
      refine RL.pass (t := 26) rfl rfl rfl rfl ?_
      refine RL.pass (t := 26) rfl rfl rfl rfl ?_
      refine RL.pass (t := 26) rfl rfl rfl rfl ?_
      refine RL.pass (t := 26) rfl rfl rfl rfl ?_
      refine RL.pass (t := 26) rfl rfl rfl rfl ?_
      refine RL.pass (t := 26) rfl rfl rfl rfl ?_
      refine RL.pass (t := 26) rfl rfl rfl rfl ?_
      refine RL.pass (t := 26) rfl rfl rfl rfl ?_
      refine RL.y rfl (y_pickF (v := .bool _) rfl rfl) ?_
      refine RL.y rfl (y_asg (v := .bool _) rfl) ?_
      refine RL.nil ?_
      refine Fin.next ?_
      refine CW.ret ?_
      refine Fin.ret1 rfl (by conv => lhs; whnf) ?_
      exact ⟨_, rfl, bF (fun h => h2 h.2.1), hE⟩
  · with_reducible first | (replace h1 := deNF h1) | (replace h1 := of_decide_eq_true h1) | (replace h1 := of_decide_eq_false h1) | (replace h1 := deNT h1) | (replace h1 := deNN h1) | (replace h1 := bnT h1) | (replace h1 := bnF h1) | skip
    refine RL.pass (t := 6) rfl rfl rfl rfl ?_
    refine RL.pass (t := 6) rfl rfl rfl rfl ?_
    refine RL.pass (t := 6) rfl rfl rfl rfl ?_
    refine RL.y rfl (y_pickF (v := .bool _) rfl rfl) ?_
    refine RL.y rfl (y_mov (v := .bool _) rfl) ?_
    refine RL.pass (t := 11) rfl rfl rfl rfl ?_
    refine RL.pass (t := 11) rfl rfl rfl rfl ?_
    refine RL.pass (t := 11) rfl rfl rfl rfl ?_
    refine RL.pass (t := 11) rfl rfl rfl rfl ?_
    refine RL.pass (t := 11) rfl rfl rfl rfl ?_
    refine RL.pass (t := 11) rfl rfl rfl rfl ?_
    refine RL.y rfl (y_pickF (v := .bool _) rfl rfl) ?_
    refine RL.y rfl (y_mov (v := .bool _) rfl) ?_
    refine RL.pass (t := 19) rfl rfl rfl rfl ?_
    refine RL.pass (t := 19) rfl rfl rfl rfl ?_
    refine RL.pass (t := 19) rfl rfl rfl rfl ?_
    refine RL.pass (t := 19) rfl rfl rfl rfl ?_
    refine RL.pass (t := 19) rfl rfl rfl rfl ?_
    refine RL.y rfl (y_pickF (v := .bool _) rfl rfl) ?_
    refine RL.y rfl (y_mov (v := .bool _) rfl) ?_
    refine RL.pass (t := 26) rfl rfl rfl rfl ?_
    refine RL.pass (t := 26) rfl rfl rfl rfl ?_
    refine RL.pass (t := 26) rfl rfl rfl rfl ?_
    refine RL.pass (t := 26) rfl rfl rfl rfl ?_
    refine RL.pass (t := 26) rfl rfl rfl rfl ?_
    refine RL.pass (t := 26) rfl rfl rfl rfl ?_
    refine RL.pass (t := 26) rfl rfl rfl rfl ?_
    refine RL.pass (t := 26) rfl rfl rfl rfl ?_
    refine RL.y rfl (y_pickF (v := .bool _) rfl rfl) ?_
    refine RL.y rfl (y_asg (v := .bool _) rfl) ?_
    refine RL.nil ?_
    refine Fin.next ?_
    refine CW.ret ?_
    refine Fin.ret1 rfl (by conv => lhs; whnf) ?_
    exact ⟨_, rfl, bF (fun h => h1 h.1), hE⟩

theorem l02Cuts_any {w : World} {q : Mk} {v : Value} {cs : List Int} (hm : mkOk q) (hv : SI w v cs) :
    Does Try.prog 121 #[mkA q, v] w (fun r w' => r = .bool (decide ((cs.length : Int) = q.ch ∧ cuts q cs)) ∧ Ext w w') := by
  have hcl := SI.le hv
  obtain ⟨⟨m1, m2⟩, ⟨m3, m4⟩, ⟨m5, m6⟩, ⟨m7, m8⟩, ⟨m9, m10⟩⟩ := id hm
  refine enter Try.func121 rfl 26 Try.ntmps121 rfl (by kernel_rfl) ?_
  refine CW.seq ?_
  refine CW.region ?_
  refine RL.box (cs := [.int .i64 q.ch, .int .i64 q.dp, .int .i64 q.st, .int .i64 q.sm, .int .i64 q.le]) rfl rfl rfl (fun w1 hV hE => ?_)
  refine RL.y rfl (y_asg rfl) ?_
  refine RL.nil ?_
  refine Fin.next ?_
  refine CW.seq ?_
  refine CW.seq ?_
  refine CW.region ?_
  refine RL.y rfl (y_asg rfl) ?_
  refine RL.nil ?_
  refine Fin.next ?_
  refine CW.block ?_
  refine CW.loop (fun m E w' => ∃ k : Nat, m = cs.length - k ∧ k ≤ cs.length ∧ agrees E [(2, .pointer (some ⟨w.heap.size, 0, none⟩)), (1, v), (5, .int .i64 (k : Int))] ∧ (∀ x ∈ cs.take k, 0 ≤ x ∧ x ≤ q.dp - 1) ∧ Ext w1 w') _ ⟨0, rfl, Nat.zero_le _, ⟨rfl, rfl, rfl, trivial⟩, by simp, Ext.refl _⟩ ?_
  · rintro m E w2 ⟨k, rfl, hkk, hagk, hall, hE2⟩
    refine CW.re _ hagk rfl ?_
    clear hagk
    refine CW.seq ?_
    refine CW.seq ?_
    refine CW.region ?_
    refine RL.y rfl (y_mov (v := .int _ _) rfl) ?_
    refine RL.y rfl (y_mov (by conv => lhs; whnf)) ?_
    refine RL.y rfl (y_len sT29 hv (ints_len _) rfl) ?_
    refine RL.y rfl (y_lt rfl rfl) ?_
    refine RL.nil ?_
    refine Fin.next ?_
    refine CW.cond rfl rfl (fun hck => ?_) (fun hck => ?_)
    · with_reducible first | (replace hck := deNF hck) | (replace hck := of_decide_eq_true hck) | (replace hck := of_decide_eq_false hck) | (replace hck := deNT hck) | (replace hck := deNN hck) | (replace hck := bnT hck) | (replace hck := bnF hck) | skip
      have hltk : k < cs.length := by omega
      refine CW.skip ?_
      refine Fin.next ?_
      refine CW.seq ?_
      refine CW.block ?_
      refine CW.seq ?_
      refine CW.quietE mixed (by kernel_rfl) ?_
      refine QL.y rfl (y_mov (by conv => lhs; whnf)) ?_
      refine QL.y rfl (y_mov (v := .int _ _) rfl) ?_
      refine QL.y rfl (y_ixa sT29 (fun _ hC => ((hv.ext hE).ext hE2).ext hC) (k := k) (ints_lt hltk) rfl rfl) ?_
      refine QL.y rfl (y_load sc2 (fun _ hC => ((hv.ext hE).ext hE2).ext hC) (ints_at hltk) rfl) ?_
      refine QL.y rfl (y_fa fa25_1 rfl rfl) ?_
      refine QL.y rfl (y_loadv sc2 (fun _ hC => (hV.ext hE2).ext hC) rfl rfl) ?_
      refine QL.y rfl (y_sub rfl rfl (IntWalk.i64_in _ (by omega))) ?_
      refine QL.call rfl (fun _ hC => qs hC l01In_any) ?_
      refine QL.y rfl (y_not rfl) ?_
      refine QL.nil (fun w3 hE3 => ?_)
      refine Fin.next ?_
      refine CW.cond rfl rfl (fun hc2 => ?_) (fun hc2 => ?_)
      · with_reducible first | (replace hc2 := deNF hc2) | (replace hc2 := of_decide_eq_true hc2) | (replace hc2 := of_decide_eq_false hc2) | (replace hc2 := deNT hc2) | (replace hc2 := deNN hc2) | (replace hc2 := bnT hc2) | (replace hc2 := bnF hc2) | skip
        refine CW.seq ?_
        refine CW.region ?_
        refine RL.y rfl (y_asg rfl) ?_
        refine RL.nil ?_
        refine Fin.next ?_
        refine CW.ret ?_
        refine Fin.blockRet ?_
        refine Fin.thenRet ?_
        refine Fin.thenRet ?_
        refine Fin.blockRet ?_
        refine Fin.thenRet ?_
        refine Fin.ret1 rfl (by conv => lhs; whnf) ?_
        exact ⟨_, rfl, bF (fun h => hc2 (h.2 _ (List.getElem_mem hltk))), hE.trans (hE2.trans hE3)⟩
      · with_reducible first | (replace hc2 := deNF hc2) | (replace hc2 := of_decide_eq_true hc2) | (replace hc2 := of_decide_eq_false hc2) | (replace hc2 := deNT hc2) | (replace hc2 := deNN hc2) | (replace hc2 := bnT hc2) | (replace hc2 := bnF hc2) | skip
        refine CW.skip ?_
        refine Fin.blockNormal ?_
        refine Fin.next ?_
        refine CW.region ?_
        refine RL.y rfl (y_mov (v := .int _ _) rfl) ?_
        refine RL.y rfl (y_add rfl rfl (IntWalk.i64_in _ (by omega))) ?_
        refine RL.y rfl (y_asg (v := .int _ _) rfl) ?_
        refine RL.nil ?_
        refine Fin.le ?_
        exact ⟨cs.length - (k + 1), by omega, k + 1, rfl, hltk, ⟨rfl, rfl, rfl, trivial⟩, all_snoc hltk hall hc2, hE2.trans hE3⟩
    · with_reducible first | (replace hck := deNF hck) | (replace hck := of_decide_eq_true hck) | (replace hck := of_decide_eq_false hck) | (replace hck := deNT hck) | (replace hck := deNN hck) | (replace hck := bnT hck) | (replace hck := bnF hck) | skip
      obtain rfl : cs.length = k := by omega
      refine CW.exit ?_
      refine Fin.thenExit ?_
      refine Fin.thenExit ?_
      refine Fin.blockHit ?_
      refine Fin.next ?_
      refine CW.seq ?_
      refine CW.region ?_
      refine RL.y rfl (y_mov (by conv => lhs; whnf)) ?_
      refine RL.y rfl (y_len sT29 hv (ints_len _) rfl) ?_
      refine RL.y rfl (y_fa fa25_0 rfl rfl) ?_
      refine RL.y rfl (y_loadv sc2 (eqw (hV.ext hE2)) rfl rfl) ?_
      refine RL.y rfl (y_eq rfl rfl) ?_
      refine RL.y rfl (y_asg (v := .bool _) rfl) ?_
      refine RL.nil ?_
      refine Fin.next ?_
      refine CW.ret ?_
      refine Fin.ret1 rfl (by conv => lhs; whnf) ?_
      exact ⟨_, rfl, bD ⟨fun h => ⟨h, by simpa [cuts] using hall⟩, fun h => h.1⟩, hE.trans hE2⟩

theorem areCuts_any {w : World} {q : Mk} {v : Value} {cs : List Int} (hm : mkOk q) (hv : SI w v cs) :
    Does Try.prog 122 #[mkA q, v] w (fun r w' => r = .bool (decide ((cs.length : Int) = q.ch ∧ cuts q cs)) ∧ Ext w w') := by
  have hcl := SI.le hv
  obtain ⟨⟨m1, m2⟩, ⟨m3, m4⟩, ⟨m5, m6⟩, ⟨m7, m8⟩, ⟨m9, m10⟩⟩ := id hm
  refine enter Try.func122 rfl 17 Try.ntmps122 rfl (by kernel_rfl) ?_
  refine CW.seq ?_
  refine CW.region ?_
  refine RL.box (cs := [.int .i64 q.ch, .int .i64 q.dp, .int .i64 q.st, .int .i64 q.sm, .int .i64 q.le]) rfl rfl rfl (fun w1 hV hE => ?_)
  refine RL.y rfl (y_asg rfl) ?_
  refine RL.nil ?_
  refine Fin.next ?_
  refine CW.seq ?_
  refine CW.region ?_
  refine RL.y rfl (y_mov (by conv => lhs; whnf)) ?_
  refine RL.y rfl (y_len sT29 hv (ints_len _) rfl) ?_
  refine RL.y rfl (y_fa fa25_0 rfl rfl) ?_
  refine RL.y rfl (y_loadv sc2 (eqw (hV)) rfl rfl) ?_
  refine RL.y rfl (y_eq rfl rfl) ?_
  refine RL.y rfl (y_mov (v := .bool _) rfl) ?_
  refine RL.split (t := 10) rfl rfl (fun h1 => ?_) (fun h1 => ?_)
  · with_reducible first | (replace h1 := deNF h1) | (replace h1 := of_decide_eq_true h1) | (replace h1 := of_decide_eq_false h1) | (replace h1 := deNT h1) | (replace h1 := deNN h1) | (replace h1 := bnT h1) | (replace h1 := bnF h1) | skip
    refine RL.take (t := 10) rfl rfl rfl ?_
    refine RL.y rfl (y_mov (by conv => lhs; whnf)) ?_
    refine RL.take (t := 10) rfl rfl rfl ?_
    refine RL.y rfl (y_fa fa25_1 rfl rfl) ?_
    refine RL.take (t := 10) rfl rfl rfl ?_
    refine RL.y rfl (y_loadv sc2 (eqw (hV)) rfl rfl) ?_
    refine RL.take (t := 10) rfl rfl rfl ?_
    refine RL.y rfl (y_sub rfl rfl (IntWalk.i64_in _ (by omega))) ?_
    refine RL.take (t := 10) rfl rfl rfl ?_
    refine RL.call rfl (allWithin_any (hv.ext hE)) ?_
    rintro r w2 ⟨rfl, rfl⟩
    refine RL.y rfl (y_pickT (v := .bool _) rfl rfl) ?_
    refine RL.y rfl (y_asg (v := .bool _) rfl) ?_
    refine RL.nil ?_
    refine Fin.next ?_
    refine CW.ret ?_
    refine Fin.ret1 rfl (by conv => lhs; whnf) ?_
    exact ⟨_, rfl, bD ⟨fun h => ⟨h1, h⟩, fun h => h.2⟩, hE⟩
  · with_reducible first | (replace h1 := deNF h1) | (replace h1 := of_decide_eq_true h1) | (replace h1 := of_decide_eq_false h1) | (replace h1 := deNT h1) | (replace h1 := deNN h1) | (replace h1 := bnT h1) | (replace h1 := bnF h1) | skip
    refine RL.pass (t := 10) rfl rfl rfl rfl ?_
    refine RL.pass (t := 10) rfl rfl rfl rfl ?_
    refine RL.pass (t := 10) rfl rfl rfl rfl ?_
    refine RL.pass (t := 10) rfl rfl rfl rfl ?_
    refine RL.pass (t := 10) rfl rfl rfl rfl ?_
    refine RL.y rfl (y_pickF (v := .bool _) rfl rfl) ?_
    refine RL.y rfl (y_asg (v := .bool _) rfl) ?_
    refine RL.nil ?_
    refine Fin.next ?_
    refine CW.ret ?_
    refine Fin.ret1 rfl (by conv => lhs; whnf) ?_
    exact ⟨_, rfl, bF (fun h => h1 h.1), hE⟩

theorem l02Kinds_any {w : World} {v : Value} {cs : List Int} (hv : SI w v cs) :
    Does Try.prog 99 #[v] w (fun r w' => r = .int .i64 ((kn cs cs.length : Nat) : Int) ∧ Ext w w') := by
  have hcl := SI.le hv
  refine enter Try.func99 rfl 23 Try.ntmps99 rfl (by kernel_rfl) ?_
  refine CW.seq ?_
  refine CW.region ?_
  refine RL.y rfl (y_asg rfl) ?_
  refine RL.nil ?_
  refine Fin.next ?_
  refine CW.seq ?_
  refine CW.region ?_
  refine RL.y rfl (y_asg rfl) ?_
  refine RL.nil ?_
  refine Fin.next ?_
  refine CW.seq ?_
  refine CW.seq ?_
  refine CW.region ?_
  refine RL.y rfl (y_asg rfl) ?_
  refine RL.nil ?_
  refine Fin.next ?_
  refine CW.block ?_
  refine CW.loop (fun m E w' => ∃ k : Nat, m = cs.length - k ∧ k ≤ cs.length ∧ agrees E [(0, v), (3, .int .i64 ((kn cs k : Nat) : Int)), (4, .int .i64 (k : Int))] ∧ Ext w w') _ ⟨0, rfl, Nat.zero_le _, ⟨rfl, rfl, rfl, trivial⟩, Ext.refl w⟩ ?_
  · rintro m E w2 ⟨k, rfl, hkk, hagk, hE2⟩
    refine CW.re _ hagk rfl ?_
    clear hagk
    refine CW.seq ?_
    refine CW.seq ?_
    refine CW.region ?_
    refine RL.y rfl (y_mov (v := .int _ _) rfl) ?_
    refine RL.y rfl (y_mov (by conv => lhs; whnf)) ?_
    refine RL.y rfl (y_len sT29 hv (ints_len _) rfl) ?_
    refine RL.y rfl (y_lt rfl rfl) ?_
    refine RL.nil ?_
    refine Fin.next ?_
    refine CW.cond rfl rfl (fun hck => ?_) (fun hck => ?_)
    · with_reducible first | (replace hck := deNF hck) | (replace hck := of_decide_eq_true hck) | (replace hck := of_decide_eq_false hck) | (replace hck := deNT hck) | (replace hck := deNN hck) | (replace hck := bnT hck) | (replace hck := bnF hck) | skip
      have hltk : k < cs.length := by omega
      have hkl := kn_le cs k
      refine CW.skip ?_
      refine Fin.next ?_
      refine CW.seq ?_
      refine CW.block ?_
      refine CW.seq ?_
      refine CW.quietE mixed (by kernel_rfl) ?_
      refine QL.y rfl (y_mov (by conv => lhs; whnf)) ?_
      refine QL.y rfl (y_mov (v := .int _ _) rfl) ?_
      refine QL.y rfl (y_cutH sT29 (fun _ hC => (hv.ext hE2).ext hC) (h := k) (by rw [ints_len]; omega) rfl rfl ) ?_
      refine QL.y rfl (y_mov (by conv => lhs; whnf)) ?_
      refine QL.y rfl (y_mov (v := .int _ _) rfl) ?_
      refine QL.y rfl (y_ixa sT29 (fun _ hC => (hv.ext hE2).ext hC) (k := k) (ints_lt hltk) rfl rfl) ?_
      refine QL.y rfl (y_load sc2 (fun _ hC => (hv.ext hE2).ext hC) (ints_at hltk) rfl) ?_
      refine QL.call rfl (fun _ hC => qs hC (l01Has_any (SI.take ((hv.ext hE2).ext hC) (Nat.le_of_lt hltk)))) ?_
      refine QL.y rfl (y_not rfl) ?_
      refine QL.nil (fun w3 hE3 => ?_)
      refine Fin.next ?_
      refine CW.cond rfl rfl (fun h1 => ?_) (fun h1 => ?_)
      · with_reducible first | (replace h1 := deNF h1) | (replace h1 := of_decide_eq_true h1) | (replace h1 := of_decide_eq_false h1) | (replace h1 := deNT h1) | (replace h1 := deNN h1) | (replace h1 := bnT h1) | (replace h1 := bnF h1) | skip
        refine CW.region ?_
        refine RL.y rfl (y_mov (v := .int _ _) rfl) ?_
        refine RL.y rfl (y_add rfl rfl (IntWalk.i64_in _ (by omega))) ?_
        refine RL.y rfl (y_asg (v := .int _ _) rfl) ?_
        refine RL.nil ?_
        refine Fin.blockNormal ?_
        refine Fin.next ?_
        refine CW.region ?_
        refine RL.y rfl (y_mov (v := .int _ _) rfl) ?_
        refine RL.y rfl (y_add rfl rfl (IntWalk.i64_in _ (by omega))) ?_
        refine RL.y rfl (y_asg (v := .int _ _) rfl) ?_
        refine RL.nil ?_
        refine Fin.le ?_
        exact ⟨cs.length - (k + 1), by omega, k + 1, rfl, hltk, ⟨rfl, by rw [kn_no hltk h1]; rfl, rfl, trivial⟩, hE2.trans hE3⟩
      · with_reducible first | (replace h1 := deNF h1) | (replace h1 := of_decide_eq_true h1) | (replace h1 := of_decide_eq_false h1) | (replace h1 := deNT h1) | (replace h1 := deNN h1) | (replace h1 := bnT h1) | (replace h1 := bnF h1) | skip
        refine CW.skip ?_
        refine Fin.blockNormal ?_
        refine Fin.next ?_
        refine CW.region ?_
        refine RL.y rfl (y_mov (v := .int _ _) rfl) ?_
        refine RL.y rfl (y_add rfl rfl (IntWalk.i64_in _ (by omega))) ?_
        refine RL.y rfl (y_asg (v := .int _ _) rfl) ?_
        refine RL.nil ?_
        refine Fin.le ?_
        exact ⟨cs.length - (k + 1), by omega, k + 1, rfl, hltk, ⟨rfl, by rw [kn_yes hltk h1]; rfl, rfl, trivial⟩, hE2.trans hE3⟩
    · with_reducible first | (replace hck := deNF hck) | (replace hck := of_decide_eq_true hck) | (replace hck := of_decide_eq_false hck) | (replace hck := deNT hck) | (replace hck := deNN hck) | (replace hck := bnT hck) | (replace hck := bnF hck) | skip
      obtain rfl : cs.length = k := by omega
      refine CW.exit ?_
      refine Fin.thenExit ?_
      refine Fin.thenExit ?_
      refine Fin.blockHit ?_
      refine Fin.next ?_
      refine CW.seq ?_
      refine CW.region ?_
      refine RL.y rfl (y_mov (v := .int _ _) rfl) ?_
      refine RL.y rfl (y_asg (v := .int _ _) rfl) ?_
      refine RL.nil ?_
      refine Fin.next ?_
      refine CW.ret ?_
      refine Fin.ret1 rfl (by conv => lhs; whnf) ?_
      exact ⟨_, rfl, rfl, hE2⟩

theorem different_any {w : World} {v : Value} {cs : List Int} (hv : SI w v cs) :
    Does Try.prog 114 #[v] w (fun r w' => r = .int .i64 ((kn cs cs.length : Nat) : Int) ∧ w = w') := by
  have hcl := SI.le hv
  refine enter Try.func114 rfl 23 Try.ntmps114 rfl (by kernel_rfl) ?_
  refine CW.seq ?_
  refine CW.region ?_
  refine RL.y rfl (y_asg rfl) ?_
  refine RL.nil ?_
  refine Fin.next ?_
  refine CW.seq ?_
  refine CW.region ?_
  refine RL.y rfl (y_asg rfl) ?_
  refine RL.nil ?_
  refine Fin.next ?_
  refine CW.seq ?_
  refine CW.seq ?_
  refine CW.region ?_
  refine RL.y rfl (y_mov (by conv => lhs; whnf)) ?_
  refine RL.y rfl (y_len sT29 hv (ints_len _) rfl) ?_
  refine RL.y rfl (y_mov rfl) ?_
  refine RL.nil ?_
  refine Fin.next ?_
  refine CW.block ?_
  refine CW.loop (fun m E w' => ∃ k : Nat, m = cs.length - k ∧ k ≤ cs.length ∧ agrees E [(0, v), (6, v), (7, .int .i64 cs.length), (3, .int .i64 ((kn cs k : Nat) : Int)), (8, .int .i64 (k : Int))] ∧ w = w') _ ⟨0, rfl, Nat.zero_le _, ⟨rfl, rfl, rfl, rfl, rfl, trivial⟩, rfl⟩ ?_
  · rintro m E w2 ⟨k, rfl, hkk, hagk, rfl⟩
    refine CW.re _ hagk rfl ?_
    clear hagk
    refine CW.seq ?_
    refine CW.region ?_
    refine RL.y rfl (y_lt rfl rfl) ?_
    refine RL.nil ?_
    refine Fin.next ?_
    refine CW.seq ?_
    refine CW.cond rfl rfl (fun hck => ?_) (fun hck => ?_)
    · with_reducible first | (replace hck := deNF hck) | (replace hck := of_decide_eq_true hck) | (replace hck := of_decide_eq_false hck) | (replace hck := deNT hck) | (replace hck := deNN hck) | (replace hck := bnT hck) | (replace hck := bnF hck) | skip
      have hltk : k < cs.length := by omega
      have hkl := kn_le cs k
      refine CW.skip ?_
      refine Fin.next ?_
      refine CW.seq ?_
      refine CW.block ?_
      refine CW.seq ?_
      refine CW.region ?_
      refine RL.y rfl (y_mov (v := .int _ _) rfl) ?_
      refine RL.y rfl (y_ixa sT29 (eqw (hv)) (k := k) (ints_lt hltk) rfl rfl) ?_
      refine RL.y rfl (y_load sc2 (eqw (hv)) (ints_at hltk) rfl) ?_
      refine RL.y rfl (y_asg (v := .int _ _) rfl) ?_
      refine RL.y rfl (y_asg (v := .int _ _) rfl) ?_
      refine RL.nil ?_
      refine Fin.next ?_
      refine CW.seq ?_
      refine CW.region ?_
      refine RL.y rfl (y_mov (by conv => lhs; whnf)) ?_
      refine RL.y rfl (y_mov (v := .int _ _) rfl) ?_
      refine RL.y rfl (y_cutH sT29 (eqw (hv)) (h := k) (by rw [ints_len]; omega) rfl rfl ) ?_
      refine RL.y rfl (y_mov (v := .int _ _) rfl) ?_
      refine RL.call rfl (ContainsI_any (SI.take hv (Nat.le_of_lt hltk))) ?_
      rintro r w3 ⟨rfl, rfl⟩
      refine RL.y rfl (y_not rfl) ?_
      refine RL.nil ?_
      refine Fin.next ?_
      refine CW.cond rfl rfl (fun h1 => ?_) (fun h1 => ?_)
      · with_reducible first | (replace h1 := deNF h1) | (replace h1 := of_decide_eq_true h1) | (replace h1 := of_decide_eq_false h1) | (replace h1 := deNT h1) | (replace h1 := deNN h1) | (replace h1 := bnT h1) | (replace h1 := bnF h1) | skip
        refine CW.region ?_
        refine RL.y rfl (y_mov (v := .int _ _) rfl) ?_
        refine RL.y rfl (y_add rfl rfl (IntWalk.i64_in _ (by omega))) ?_
        refine RL.y rfl (y_asg (v := .int _ _) rfl) ?_
        refine RL.nil ?_
        refine Fin.blockNormal ?_
        refine Fin.next ?_
        refine CW.region ?_
        refine RL.y rfl (y_add rfl rfl (IntWalk.i64_in _ (by omega))) ?_
        refine RL.y rfl (y_mov (v := .int _ _) rfl) ?_
        refine RL.nil ?_
        refine Fin.le ?_
        exact ⟨cs.length - (k + 1), by omega, k + 1, rfl, hltk, ⟨rfl, rfl, rfl, by rw [kn_no hltk h1]; rfl, rfl, trivial⟩, rfl⟩
      · with_reducible first | (replace h1 := deNF h1) | (replace h1 := of_decide_eq_true h1) | (replace h1 := of_decide_eq_false h1) | (replace h1 := deNT h1) | (replace h1 := deNN h1) | (replace h1 := bnT h1) | (replace h1 := bnF h1) | skip
        refine CW.skip ?_
        refine Fin.blockNormal ?_
        refine Fin.next ?_
        refine CW.region ?_
        refine RL.y rfl (y_add rfl rfl (IntWalk.i64_in _ (by omega))) ?_
        refine RL.y rfl (y_mov (v := .int _ _) rfl) ?_
        refine RL.nil ?_
        refine Fin.le ?_
        exact ⟨cs.length - (k + 1), by omega, k + 1, rfl, hltk, ⟨rfl, rfl, rfl, by rw [kn_yes hltk h1]; rfl, rfl, trivial⟩, rfl⟩
    · with_reducible first | (replace hck := deNF hck) | (replace hck := of_decide_eq_true hck) | (replace hck := of_decide_eq_false hck) | (replace hck := deNT hck) | (replace hck := deNN hck) | (replace hck := bnT hck) | (replace hck := bnF hck) | skip
      obtain rfl : cs.length = k := by omega
      refine CW.exit ?_
      refine Fin.thenExit ?_
      refine Fin.thenExit ?_
      refine Fin.blockHit ?_
      refine Fin.next ?_
      refine CW.seq ?_
      refine CW.region ?_
      refine RL.y rfl (y_mov (v := .int _ _) rfl) ?_
      refine RL.y rfl (y_asg (v := .int _ _) rfl) ?_
      refine RL.nil ?_
      refine Fin.next ?_
      refine CW.ret ?_
      refine Fin.ret1 rfl (by conv => lhs; whnf) ?_
      exact ⟨_, rfl, rfl, rfl⟩

theorem sameRun_any {w : World} {v : Value} {cs : List Int} (hv : SI w v cs) (h0 : 1 ≤ cs.length) :
    Does Try.prog 115 #[v] w (fun r w' => r = .int .i64 ((rn cs (cs.length - 1) : Nat) : Int) ∧ Ext w w') := by
  have hcl := SI.le hv
  refine enter Try.func115 rfl 28 Try.ntmps115 rfl (by kernel_rfl) ?_
  refine CW.seq ?_
  refine CW.region ?_
  refine RL.y rfl (y_asg rfl) ?_
  refine RL.nil ?_
  refine Fin.next ?_
  refine CW.seq ?_
  refine CW.region ?_
  refine RL.y rfl (y_asg rfl) ?_
  refine RL.nil ?_
  refine Fin.next ?_
  refine CW.seq ?_
  refine CW.block ?_
  refine CW.loop (fun m E w' => ∃ k : Nat, m = cs.length - k ∧ 1 ≤ k ∧ k ≤ cs.length ∧ agrees E [(0, v), (3, .int .i64 (k : Int))] ∧ (∀ j, j < k → cs.getD (cs.length - 1 - j) 0 = cs.getD (cs.length - 1) 0) ∧ Ext w w') _ (⟨1, rfl, Nat.le_refl _, h0, ⟨rfl, rfl, trivial⟩, (fun j hj => by rw [show j = 0 from by omega]; rfl), Ext.refl w⟩) ?_
  · rintro m E w2 ⟨k, rfl, hk1, hk, hag, hall, hE2⟩
    refine CW.re _ hag rfl ?_
    refine CW.seq ?_
    refine CW.seq ?_
    refine CW.quietE mixed (by kernel_rfl) ?_
    refine QL.y rfl (y_mov (v := .int _ _) rfl) ?_
    refine QL.y rfl (y_mov (by conv => lhs; whnf)) ?_
    refine QL.y rfl (y_len sT29 hv (ints_len _) rfl) ?_
    refine QL.y rfl (y_lt rfl rfl) ?_
    refine QL.y rfl (y_mov (v := .bool _) rfl) ?_
    refine QL.split (t := 8) rfl rfl (fun h1 => ?_) (fun h1 => ?_)
    · with_reducible first | (replace h1 := deNF h1) | (replace h1 := of_decide_eq_true h1) | (replace h1 := of_decide_eq_false h1) | (replace h1 := deNT h1) | (replace h1 := deNN h1) | (replace h1 := bnT h1) | (replace h1 := bnF h1) | skip
      have hlt : k < cs.length := by omega
      refine QL.take (t := 8) rfl rfl rfl ?_
      refine QL.y rfl (y_mov (by conv => lhs; whnf)) ?_
      refine QL.take (t := 8) rfl rfl rfl ?_
      refine QL.y rfl (y_mov (by conv => lhs; whnf)) ?_
      refine QL.take (t := 8) rfl rfl rfl ?_
      refine QL.y rfl (y_len sT29 hv (ints_len _) rfl) ?_
      refine QL.take (t := 8) rfl rfl rfl ?_
      refine QL.y rfl (y_sub rfl rfl ((show IntKind.i64.wrap ((cs.length : Int) - 1) = ((cs.length - 1 : Nat) : Int) by rw [IntWalk.i64_in _ (by omega)]; omega))) ?_
      refine QL.take (t := 8) rfl rfl rfl ?_
      refine QL.y rfl (y_mov (v := .int _ _) rfl) ?_
      refine QL.take (t := 8) rfl rfl rfl ?_
      refine QL.y rfl (y_sub rfl rfl ((show IntKind.i64.wrap (((cs.length - 1 : Nat) : Int) - (k : Int)) = ((cs.length - 1 - k : Nat) : Int) by rw [IntWalk.i64_in _ (by omega)]; omega))) ?_
      refine QL.take (t := 8) rfl rfl rfl ?_
      refine QL.y rfl (y_ixa sT29 (fun _ hC => (hv.ext hE2).ext hC) (k := cs.length - 1 - k) (ints_lt (by omega)) rfl rfl) ?_
      refine QL.take (t := 8) rfl rfl rfl ?_
      refine QL.y rfl (y_load sc2 (fun _ hC => (hv.ext hE2).ext hC) (ints_at (by omega)) rfl) ?_
      refine QL.take (t := 8) rfl rfl rfl ?_
      refine QL.y rfl (y_mov (by conv => lhs; whnf)) ?_
      refine QL.take (t := 8) rfl rfl rfl ?_
      refine QL.y rfl (y_mov (by conv => lhs; whnf)) ?_
      refine QL.take (t := 8) rfl rfl rfl ?_
      refine QL.y rfl (y_len sT29 hv (ints_len _) rfl) ?_
      refine QL.take (t := 8) rfl rfl rfl ?_
      refine QL.y rfl (y_sub rfl rfl ((show IntKind.i64.wrap ((cs.length : Int) - 1) = ((cs.length - 1 : Nat) : Int) by rw [IntWalk.i64_in _ (by omega)]; omega))) ?_
      refine QL.take (t := 8) rfl rfl rfl ?_
      refine QL.y rfl (y_ixa sT29 (fun _ hC => (hv.ext hE2).ext hC) (k := cs.length - 1) (ints_lt (by omega)) rfl rfl) ?_
      refine QL.take (t := 8) rfl rfl rfl ?_
      refine QL.y rfl (y_load sc2 (fun _ hC => (hv.ext hE2).ext hC) (ints_at (by omega)) rfl) ?_
      refine QL.take (t := 8) rfl rfl rfl ?_
      refine QL.y rfl (y_eq rfl rfl) ?_
      refine QL.y rfl (y_pickT (v := .bool _) rfl rfl) ?_
      refine QL.nil (fun w3 hE3 => ?_)
      have g1 : cs.getD (cs.length - 1 - k) 0 = cs[cs.length - 1 - k] := getD_lt (by omega)
      have g2 : cs.getD (cs.length - 1) 0 = cs[cs.length - 1] := getD_lt (by omega)
      refine Fin.next ?_
      refine CW.cond rfl rfl (fun h2 => ?_) (fun h2 => ?_)
      · with_reducible first | (replace h2 := deNF h2) | (replace h2 := of_decide_eq_true h2) | (replace h2 := of_decide_eq_false h2) | (replace h2 := deNT h2) | (replace h2 := deNN h2) | (replace h2 := bnT h2) | (replace h2 := bnF h2) | skip
        refine CW.skip ?_
        refine Fin.next ?_
        refine CW.block ?_
        refine CW.region ?_
        refine RL.y rfl (y_mov (v := .int _ _) rfl) ?_
        refine RL.y rfl (y_add rfl rfl (IntWalk.i64_in _ (by omega))) ?_
        refine RL.y rfl (y_asg (v := .int _ _) rfl) ?_
        refine RL.nil ?_
        refine Fin.blockNormal ?_
        refine Fin.le ?_
        exact ⟨cs.length - (k + 1), by omega, k + 1, rfl, by omega, hlt, ⟨rfl, rfl, trivial⟩, all_succ hall (by rw [g1, g2]; exact h2), hE2.trans hE3⟩
      · with_reducible first | (replace h2 := deNF h2) | (replace h2 := of_decide_eq_true h2) | (replace h2 := of_decide_eq_false h2) | (replace h2 := deNT h2) | (replace h2 := deNN h2) | (replace h2 := bnT h2) | (replace h2 := bnF h2) | skip
        refine CW.exit ?_
        refine Fin.thenExit ?_
        refine Fin.thenExit ?_
        refine Fin.blockHit ?_
        refine Fin.next ?_
        refine CW.seq ?_
        refine CW.region ?_
        refine RL.y rfl (y_mov (v := .int _ _) rfl) ?_
        refine RL.y rfl (y_asg (v := .int _ _) rfl) ?_
        refine RL.nil ?_
        refine Fin.next ?_
        refine CW.ret ?_
        refine Fin.ret1 rfl (by conv => lhs; whnf) ?_
        exact ⟨_, rfl, by rw [rn_run (cs.length - 1) k hk1 (by omega) hall (.inr (by rw [g1, g2]; exact h2))], hE2.trans hE3⟩
    · with_reducible first | (replace h1 := deNF h1) | (replace h1 := of_decide_eq_true h1) | (replace h1 := of_decide_eq_false h1) | (replace h1 := deNT h1) | (replace h1 := deNN h1) | (replace h1 := bnT h1) | (replace h1 := bnF h1) | skip
      refine QL.pass (t := 8) rfl rfl rfl rfl ?_
      refine QL.pass (t := 8) rfl rfl rfl rfl ?_
      refine QL.pass (t := 8) rfl rfl rfl rfl ?_
      refine QL.pass (t := 8) rfl rfl rfl rfl ?_
      refine QL.pass (t := 8) rfl rfl rfl rfl ?_
      refine QL.pass (t := 8) rfl rfl rfl rfl ?_
      refine QL.pass (t := 8) rfl rfl rfl rfl ?_
      refine QL.pass (t := 8) rfl rfl rfl rfl ?_
      refine QL.pass (t := 8) rfl rfl rfl rfl ?_
      refine QL.pass (t := 8) rfl rfl rfl rfl ?_
      refine QL.pass (t := 8) rfl rfl rfl rfl ?_
      refine QL.pass (t := 8) rfl rfl rfl rfl ?_
      refine QL.pass (t := 8) rfl rfl rfl rfl ?_
      refine QL.pass (t := 8) rfl rfl rfl rfl ?_
      refine QL.pass (t := 8) rfl rfl rfl rfl ?_
      refine QL.y rfl (y_pickF (v := .bool _) rfl rfl) ?_
      refine QL.nil (fun w3 hE3 => ?_)
      refine Fin.next ?_
      refine CW.condF rfl rfl ?_
      refine CW.exit ?_
      refine Fin.thenExit ?_
      refine Fin.thenExit ?_
      refine Fin.blockHit ?_
      refine Fin.next ?_
      refine CW.seq ?_
      refine CW.region ?_
      refine RL.y rfl (y_mov (v := .int _ _) rfl) ?_
      refine RL.y rfl (y_asg (v := .int _ _) rfl) ?_
      refine RL.nil ?_
      refine Fin.next ?_
      refine CW.ret ?_
      refine Fin.ret1 rfl (by conv => lhs; whnf) ?_
      exact ⟨_, rfl, by rw [rn_run (cs.length - 1) k hk1 (by omega) hall (.inl (by omega))], hE2.trans hE3⟩
end Go.Proofs.Ytaepdknmagaokaa
