/-
  What package slices does: IndexFunc, ContainsFunc, Index, Clone, DeleteFunc.
-/
import Derived.Test.YtkkeipogkjlneaaFInts
import Derived.Test.YtkkeipogkjlneaaPart
namespace Go.Proofs.Ytkkeipogkjlneaa
open B Go.RowKit

theorem IndexFuncI_any {w : World} {v : Value} {xs : List Int} {f : Nat} {cl : List Value} (p : Int → Bool) (hv : SI w v xs) (hf : ∀ w' x, Ext w w' → x ∈ xs → Does Try.prog f ([Value.int .i64 x] ++ cl).toArray w' (fun r w'' => r = .bool (p x) ∧ Ext w' w'')) :
    Does Try.prog 120 #[v, .func (.func f) #[] cl.toArray] w (fun r w' => ∃ i : Int, r = .int .i64 i ∧ idxF p xs i ∧ Ext w w') := by
  have hxl := SI.le hv
  refine enter Try.func120 rfl 19 Try.ntmps120 rfl (by kernel_rfl) ?_
  refine CW.seq ?_
  refine CW.region ?_
  refine RL.y rfl (y_asg rfl) ?_
  refine RL.nil ?_
  refine Fin.next ?_
  refine CW.seq ?_
  refine CW.seq ?_
  refine CW.region ?_
  refine RL.y rfl (y_mov (by conv => lhs; whnf)) ?_
  refine RL.y rfl (y_len sT22 hv (ints_len _) rfl) ?_
  refine RL.y rfl (y_mov rfl) ?_
  refine RL.nil ?_
  refine Fin.next ?_
  refine CW.block ?_
  refine CW.loop (fun m E w' => ∃ k : Nat, m = xs.length - k ∧ k ≤ xs.length ∧ agrees E [(0, v), (1, .func (.func f) #[] cl.toArray), (7, .int .i64 xs.length), (8, .int .i64 (k : Int))] ∧ (∀ x ∈ xs.take k, p x = false) ∧ Ext w w') _ ⟨0, rfl, Nat.zero_le _, ⟨rfl, rfl, rfl, rfl, trivial⟩, by simp, Ext.refl w⟩ ?_
  · rintro m E w2 ⟨k, rfl, hkk, hagk, hno, hE2⟩
    refine CW.re _ hagk rfl ?_
    clear hagk
    refine CW.seq ?_
    refine CW.region ?_
    refine RL.y rfl (y_lt rfl rfl) ?_
    refine RL.nil ?_
    refine Fin.next ?_
    refine CW.seq ?_
    refine CW.cond rfl rfl (fun hck => ?_) (fun hck => ?_)
    · with_reducible first | (replace hck := deNF hck) | (replace hck := of_decide_eq_true hck) | (replace hck := of_decide_eq_false hck) | (replace hck := deNT hck) | (replace hck := deNN hck) | (replace hck := bnT hck) | (replace hck := bnF hck) | skip
      have hltk : k < xs.length := by omega
      refine CW.skip ?_
      refine Fin.next ?_
      refine CW.seq ?_
      refine CW.block ?_
      refine CW.seq ?_
      refine CW.region ?_
      refine RL.y rfl (y_mov (v := .int _ _) rfl) ?_
      refine RL.y rfl (y_asg (v := .int _ _) rfl) ?_
      refine RL.nil ?_
      refine Fin.next ?_
      refine CW.seq ?_
      refine CW.region ?_
      refine RL.y rfl (y_mov (by conv => lhs; whnf)) ?_
      refine RL.y rfl (y_mov (by conv => lhs; whnf)) ?_
      refine RL.y rfl (y_mov (v := .int _ _) rfl) ?_
      refine RL.y rfl (y_ixa sT22 (eqw (hv.ext hE2)) (k := k) (ints_lt hltk) rfl rfl) ?_
      refine RL.y rfl (y_load sc2 (eqw (hv.ext hE2)) (ints_at hltk) rfl) ?_
      refine RL.callw rfl rfl (hf w2 _ hE2 (List.getElem_mem hltk)) ?_
      rintro r w3 ⟨rfl, hE3⟩
      refine RL.nil ?_
      refine Fin.next ?_
      refine CW.cond rfl rfl (fun h1 => ?_) (fun h1 => ?_)
      · with_reducible first | (replace h1 := deNF h1) | (replace h1 := of_decide_eq_true h1) | (replace h1 := of_decide_eq_false h1) | (replace h1 := deNT h1) | (replace h1 := deNN h1) | (replace h1 := bnT h1) | (replace h1 := bnF h1) | skip
        refine CW.seq ?_
        refine CW.region ?_
        refine RL.y rfl (y_mov (v := .int _ _) rfl) ?_
        refine RL.y rfl (y_asg (v := .int _ _) rfl) ?_
        refine RL.nil ?_
        refine Fin.next ?_
        refine CW.ret ?_
        refine Fin.blockRet ?_
        refine Fin.thenRet ?_
        refine Fin.thenRet ?_
        refine Fin.blockRet ?_
        refine Fin.thenRet ?_
        refine Fin.ret1 rfl (by conv => lhs; whnf) ?_
        exact ⟨_, rfl, _, rfl, .inr ⟨k, rfl, hltk, h1, hno⟩, hE2.trans hE3⟩
      · with_reducible first | (replace h1 := deNF h1) | (replace h1 := of_decide_eq_true h1) | (replace h1 := of_decide_eq_false h1) | (replace h1 := deNT h1) | (replace h1 := deNN h1) | (replace h1 := bnT h1) | (replace h1 := bnF h1) | skip
        refine CW.skip ?_
        refine Fin.blockNormal ?_
        refine Fin.next ?_
        refine CW.region ?_
        refine RL.y rfl (y_add rfl rfl (IntWalk.i64_in _ (by omega))) ?_
        refine RL.y rfl (y_mov (v := .int _ _) rfl) ?_
        refine RL.nil ?_
        refine Fin.le ?_
        exact ⟨xs.length - (k + 1), by omega, k + 1, rfl, hltk, ⟨rfl, rfl, rfl, rfl, trivial⟩, all_snoc hltk hno h1, hE2.trans hE3⟩
    · with_reducible first | (replace hck := deNF hck) | (replace hck := of_decide_eq_true hck) | (replace hck := of_decide_eq_false hck) | (replace hck := deNT hck) | (replace hck := deNN hck) | (replace hck := bnT hck) | (replace hck := bnF hck) | skip
      obtain rfl : xs.length = k := by omega
      rw [List.take_length] at hno
      refine CW.exit ?_
      refine Fin.thenExit ?_
      refine Fin.thenExit ?_
      refine Fin.blockHit ?_
      refine Fin.next ?_
      refine CW.seq ?_
      refine CW.region ?_
      refine RL.y rfl (y_asg rfl) ?_
      refine RL.nil ?_
      refine Fin.next ?_
      refine CW.ret ?_
      refine Fin.ret1 rfl (by conv => lhs; whnf) ?_
      exact ⟨_, rfl, _, rfl, .inl ⟨rfl, hno⟩, hE2⟩

theorem ContainsFuncI_any {w : World} {v : Value} {xs : List Int} {f : Nat} {cl : List Value} (p : Int → Bool) (hv : SI w v xs) (hf : ∀ w' x, Ext w w' → x ∈ xs → Does Try.prog f ([Value.int .i64 x] ++ cl).toArray w' (fun r w'' => r = .bool (p x) ∧ Ext w' w'')) :
    Does Try.prog 82 #[v, .func (.func f) #[] cl.toArray] w (fun r w' => r = .bool (xs.any p) ∧ Ext w w') := by
  refine enter Try.func82 rfl 9 Try.ntmps82 rfl (by kernel_rfl) ?_
  refine CW.seq ?_
  refine CW.region ?_
  refine RL.y rfl (y_asg rfl) ?_
  refine RL.nil ?_
  refine Fin.next ?_
  refine CW.seq ?_
  refine CW.region ?_
  refine RL.y rfl (y_mov (by conv => lhs; whnf)) ?_
  refine RL.y rfl (y_mov (by conv => lhs; whnf)) ?_
  refine RL.call rfl (IndexFuncI_any p hv hf) ?_
  rintro r w1 ⟨i, rfl, hi, hE⟩
  refine RL.y rfl (y_ge rfl rfl) ?_
  refine RL.y rfl (y_asg (v := .bool _) rfl) ?_
  refine RL.nil ?_
  refine Fin.next ?_
  refine CW.ret ?_
  refine Fin.ret1 rfl (by conv => lhs; whnf) ?_
  exact ⟨_, rfl, congrArg Value.bool (idxF_any hi), hE⟩

theorem IndexFuncS_any {w : World} {v : Value} {cs : List Value} {f : Nat} {cl : List Value} (p : Nat → Bool) (hv : SV w v cs) (hf : ∀ w' k, Ext w w' → k < cs.length → Does Try.prog f ([cs.getD k undef] ++ cl).toArray w' (fun r w'' => r = .bool (p k) ∧ Ext w' w'')) :
    Does Try.prog 113 #[v, .func (.func f) #[] cl.toArray] w (fun r w' => ∃ i : Int, r = .int .i64 i ∧ idxF p (List.range cs.length) i ∧ Ext w w') := by
  have hxl := SV.le hv
  refine enter Try.func113 rfl 19 Try.ntmps113 rfl (by kernel_rfl) ?_
  refine CW.seq ?_
  refine CW.region ?_
  refine RL.y rfl (y_asg rfl) ?_
  refine RL.nil ?_
  refine Fin.next ?_
  refine CW.seq ?_
  refine CW.seq ?_
  refine CW.region ?_
  refine RL.y rfl (y_mov (by conv => lhs; whnf)) ?_
  refine RL.y rfl (y_len sT26 hv rfl rfl) ?_
  refine RL.y rfl (y_mov rfl) ?_
  refine RL.nil ?_
  refine Fin.next ?_
  refine CW.block ?_
  refine CW.loop (fun m E w' => ∃ k : Nat, m = cs.length - k ∧ k ≤ cs.length ∧ agrees E [(0, v), (1, .func (.func f) #[] cl.toArray), (7, .int .i64 cs.length), (8, .int .i64 (k : Int))] ∧ (∀ x ∈ List.range k, p x = false) ∧ Ext w w') _ ⟨0, rfl, Nat.zero_le _, ⟨rfl, rfl, rfl, rfl, trivial⟩, by simp, Ext.refl w⟩ ?_
  · rintro m E w2 ⟨k, rfl, hkk, hagk, hno, hE2⟩
    refine CW.re _ hagk rfl ?_
    clear hagk
    refine CW.seq ?_
    refine CW.region ?_
    refine RL.y rfl (y_lt rfl rfl) ?_
    refine RL.nil ?_
    refine Fin.next ?_
    refine CW.seq ?_
    refine CW.cond rfl rfl (fun hck => ?_) (fun hck => ?_)
    · with_reducible first | (replace hck := deNF hck) | (replace hck := of_decide_eq_true hck) | (replace hck := of_decide_eq_false hck) | (replace hck := deNT hck) | (replace hck := deNN hck) | (replace hck := bnT hck) | (replace hck := bnF hck) | skip
      have hltk : k < cs.length := by omega
      refine CW.skip ?_
      refine Fin.next ?_
      refine CW.seq ?_
      refine CW.block ?_
      refine CW.seq ?_
      refine CW.region ?_
      refine RL.y rfl (y_mov (v := .int _ _) rfl) ?_
      refine RL.y rfl (y_asg (v := .int _ _) rfl) ?_
      refine RL.nil ?_
      refine Fin.next ?_
      refine CW.seq ?_
      refine CW.region ?_
      refine RL.y rfl (y_mov (by conv => lhs; whnf)) ?_
      refine RL.y rfl (y_mov (by conv => lhs; whnf)) ?_
      refine RL.y rfl (y_mov (v := .int _ _) rfl) ?_
      refine RL.y rfl (y_ixa sT26 (eqw (hv.ext hE2)) (k := k) hltk rfl rfl) ?_
      refine RL.y rfl (y_load sc22 (eqw (hv.ext hE2)) ((show cs[k]? = some (cs.getD k undef) by simp [List.getD, List.getElem?_eq_getElem hltk])) rfl) ?_
      refine RL.callw rfl rfl (hf w2 k hE2 hltk) ?_
      rintro r w3 ⟨rfl, hE3⟩
      refine RL.nil ?_
      refine Fin.next ?_
      refine CW.cond rfl rfl (fun h1 => ?_) (fun h1 => ?_)
      · with_reducible first | (replace h1 := deNF h1) | (replace h1 := of_decide_eq_true h1) | (replace h1 := of_decide_eq_false h1) | (replace h1 := deNT h1) | (replace h1 := deNN h1) | (replace h1 := bnT h1) | (replace h1 := bnF h1) | skip
        refine CW.seq ?_
        refine CW.region ?_
        refine RL.y rfl (y_mov (v := .int _ _) rfl) ?_
        refine RL.y rfl (y_asg (v := .int _ _) rfl) ?_
        refine RL.nil ?_
        refine Fin.next ?_
        refine CW.ret ?_
        refine Fin.blockRet ?_
        refine Fin.thenRet ?_
        refine Fin.thenRet ?_
        refine Fin.blockRet ?_
        refine Fin.thenRet ?_
        refine Fin.ret1 rfl (by conv => lhs; whnf) ?_
        exact ⟨_, rfl, _, rfl, .inr ⟨k, rfl, by simpa using hltk, by simpa using h1, by simpa [List.take_range, Nat.min_eq_left (Nat.le_of_lt hltk)] using hno⟩, hE2.trans hE3⟩
      · with_reducible first | (replace h1 := deNF h1) | (replace h1 := of_decide_eq_true h1) | (replace h1 := of_decide_eq_false h1) | (replace h1 := deNT h1) | (replace h1 := deNN h1) | (replace h1 := bnT h1) | (replace h1 := bnF h1) | skip
        refine CW.skip ?_
        refine Fin.blockNormal ?_
        refine Fin.next ?_
        refine CW.region ?_
        refine RL.y rfl (y_add rfl rfl (IntWalk.i64_in _ (by omega))) ?_
        refine RL.y rfl (y_mov (v := .int _ _) rfl) ?_
        refine RL.nil ?_
        refine Fin.le ?_
        exact ⟨cs.length - (k + 1), by omega, k + 1, rfl, hltk, ⟨rfl, rfl, rfl, rfl, trivial⟩, (fun x hx => by rw [List.range_succ, List.mem_append, List.mem_singleton] at hx; rcases hx with hx | rfl; exact hno x hx; exact h1), hE2.trans hE3⟩
    · with_reducible first | (replace hck := deNF hck) | (replace hck := of_decide_eq_true hck) | (replace hck := of_decide_eq_false hck) | (replace hck := deNT hck) | (replace hck := deNN hck) | (replace hck := bnT hck) | (replace hck := bnF hck) | skip
      obtain rfl : cs.length = k := by omega
      refine CW.exit ?_
      refine Fin.thenExit ?_
      refine Fin.thenExit ?_
      refine Fin.blockHit ?_
      refine Fin.next ?_
      refine CW.seq ?_
      refine CW.region ?_
      refine RL.y rfl (y_asg rfl) ?_
      refine RL.nil ?_
      refine Fin.next ?_
      refine CW.ret ?_
      refine Fin.ret1 rfl (by conv => lhs; whnf) ?_
      exact ⟨_, rfl, _, rfl, .inl ⟨rfl, hno⟩, hE2⟩

theorem ContainsFuncS_any {w : World} {v : Value} {cs : List Value} {f : Nat} {cl : List Value} (p : Nat → Bool) (hv : SV w v cs) (hf : ∀ w' k, Ext w w' → k < cs.length → Does Try.prog f ([cs.getD k undef] ++ cl).toArray w' (fun r w'' => r = .bool (p k) ∧ Ext w' w'')) :
    Does Try.prog 68 #[v, .func (.func f) #[] cl.toArray] w (fun r w' => r = .bool ((List.range cs.length).any p) ∧ Ext w w') := by
  refine enter Try.func68 rfl 9 Try.ntmps68 rfl (by kernel_rfl) ?_
  refine CW.seq ?_
  refine CW.region ?_
  refine RL.y rfl (y_asg rfl) ?_
  refine RL.nil ?_
  refine Fin.next ?_
  refine CW.seq ?_
  refine CW.region ?_
  refine RL.y rfl (y_mov (by conv => lhs; whnf)) ?_
  refine RL.y rfl (y_mov (by conv => lhs; whnf)) ?_
  refine RL.call rfl (IndexFuncS_any p hv hf) ?_
  rintro r w1 ⟨i, rfl, hi, hE⟩
  refine RL.y rfl (y_ge rfl rfl) ?_
  refine RL.y rfl (y_asg (v := .bool _) rfl) ?_
  refine RL.nil ?_
  refine Fin.next ?_
  refine CW.ret ?_
  refine Fin.ret1 rfl (by conv => lhs; whnf) ?_
  exact ⟨_, rfl, congrArg Value.bool (idxF_any hi), hE⟩

theorem IndexB_any {w : World} {v : Value} {xs : List Bool} {b : Bool} (hv : SB w v xs) :
    Does Try.prog 119 #[v, .bool b] w (fun r w' => ∃ i : Int, r = .int .i64 i ∧ idxF (fun x => b == x) xs i ∧ w = w') := by
  have hxl := SV.le hv
  rw [bools_len] at hxl
  refine enter Try.func119 rfl 19 Try.ntmps119 rfl (by kernel_rfl) ?_
  refine CW.seq ?_
  refine CW.region ?_
  refine RL.y rfl (y_asg rfl) ?_
  refine RL.nil ?_
  refine Fin.next ?_
  refine CW.seq ?_
  refine CW.seq ?_
  refine CW.region ?_
  refine RL.y rfl (y_mov (by conv => lhs; whnf)) ?_
  refine RL.y rfl (y_len sT23 hv (bools_len _) rfl) ?_
  refine RL.y rfl (y_mov rfl) ?_
  refine RL.nil ?_
  refine Fin.next ?_
  refine CW.block ?_
  refine CW.loop (fun m E w' => ∃ k : Nat, m = xs.length - k ∧ k ≤ xs.length ∧ agrees E [(0, v), (1, .bool b), (7, .int .i64 xs.length), (8, .int .i64 (k : Int))] ∧ (∀ x ∈ xs.take k, (b == x) = false) ∧ w = w') _ ⟨0, rfl, Nat.zero_le _, ⟨rfl, rfl, rfl, rfl, trivial⟩, by simp, rfl⟩ ?_
  · rintro m E w2 ⟨k, rfl, hkk, hagk, hno, rfl⟩
    refine CW.re _ hagk rfl ?_
    clear hagk
    refine CW.seq ?_
    refine CW.region ?_
    refine RL.y rfl (y_lt rfl rfl) ?_
    refine RL.nil ?_
    refine Fin.next ?_
    refine CW.seq ?_
    refine CW.cond rfl rfl (fun hck => ?_) (fun hck => ?_)
    · with_reducible first | (replace hck := deNF hck) | (replace hck := of_decide_eq_true hck) | (replace hck := of_decide_eq_false hck) | (replace hck := deNT hck) | (replace hck := deNN hck) | (replace hck := bnT hck) | (replace hck := bnF hck) | skip
      have hltk : k < xs.length := by omega
      refine CW.skip ?_
      refine Fin.next ?_
      refine CW.seq ?_
      refine CW.block ?_
      refine CW.seq ?_
      refine CW.region ?_
      refine RL.y rfl (y_mov (v := .int _ _) rfl) ?_
      refine RL.y rfl (y_asg (v := .int _ _) rfl) ?_
      refine RL.nil ?_
      refine Fin.next ?_
      refine CW.seq ?_
      refine CW.region ?_
      refine RL.y rfl (y_mov (v := .bool _) rfl) ?_
      refine RL.y rfl (y_mov (by conv => lhs; whnf)) ?_
      refine RL.y rfl (y_mov (v := .int _ _) rfl) ?_
      refine RL.y rfl (y_ixa sT23 (eqw (hv)) (k := k) (bools_lt hltk) rfl rfl) ?_
      refine RL.y rfl (y_load sc4 (eqw (hv)) (bools_at hltk) rfl) ?_
      refine RL.y rfl (y_beq Try.underlying4 rfl rfl) ?_
      refine RL.nil ?_
      refine Fin.next ?_
      refine CW.cond rfl rfl (fun h1 => ?_) (fun h1 => ?_)
      · with_reducible first | (replace h1 := deNF h1) | (replace h1 := of_decide_eq_true h1) | (replace h1 := of_decide_eq_false h1) | (replace h1 := deNT h1) | (replace h1 := deNN h1) | (replace h1 := bnT h1) | (replace h1 := bnF h1) | skip
        refine CW.seq ?_
        refine CW.region ?_
        refine RL.y rfl (y_mov (v := .int _ _) rfl) ?_
        refine RL.y rfl (y_asg (v := .int _ _) rfl) ?_
        refine RL.nil ?_
        refine Fin.next ?_
        refine CW.ret ?_
        refine Fin.blockRet ?_
        refine Fin.thenRet ?_
        refine Fin.thenRet ?_
        refine Fin.blockRet ?_
        refine Fin.thenRet ?_
        refine Fin.ret1 rfl (by conv => lhs; whnf) ?_
        exact ⟨_, rfl, _, rfl, .inr ⟨k, rfl, hltk, by simpa using h1, hno⟩, rfl⟩
      · with_reducible first | (replace h1 := deNF h1) | (replace h1 := of_decide_eq_true h1) | (replace h1 := of_decide_eq_false h1) | (replace h1 := deNT h1) | (replace h1 := deNN h1) | (replace h1 := bnT h1) | (replace h1 := bnF h1) | skip
        refine CW.skip ?_
        refine Fin.blockNormal ?_
        refine Fin.next ?_
        refine CW.region ?_
        refine RL.y rfl (y_add rfl rfl (IntWalk.i64_in _ (by omega))) ?_
        refine RL.y rfl (y_mov (v := .int _ _) rfl) ?_
        refine RL.nil ?_
        refine Fin.le ?_
        exact ⟨xs.length - (k + 1), by omega, k + 1, rfl, hltk, ⟨rfl, rfl, rfl, rfl, trivial⟩, all_snoc hltk hno (by simpa using h1), rfl⟩
    · with_reducible first | (replace hck := deNF hck) | (replace hck := of_decide_eq_true hck) | (replace hck := of_decide_eq_false hck) | (replace hck := deNT hck) | (replace hck := deNN hck) | (replace hck := bnT hck) | (replace hck := bnF hck) | skip
      obtain rfl : xs.length = k := by omega
      rw [List.take_length] at hno
      refine CW.exit ?_
      refine Fin.thenExit ?_
      refine Fin.thenExit ?_
      refine Fin.blockHit ?_
      refine Fin.next ?_
      refine CW.seq ?_
      refine CW.region ?_
      refine RL.y rfl (y_asg rfl) ?_
      refine RL.nil ?_
      refine Fin.next ?_
      refine CW.ret ?_
      refine Fin.ret1 rfl (by conv => lhs; whnf) ?_
      exact ⟨_, rfl, _, rfl, .inl ⟨rfl, hno⟩, rfl⟩

theorem CloneI_any {w : World} {v : Value} {xs : List Int} (hv : SI w v xs) (hlen : xs.length ≤ 1048576) :
    Does Try.prog 87 #[v] w (fun v' w' => OV w' w.heap.size 2 v' (ints xs) ∧ Ext w w') := by
  refine enter Try.func87 rfl 8 Try.ntmps87 rfl (by kernel_rfl) ?_
  refine CW.seq ?_
  refine CW.region ?_
  refine RL.y rfl (y_asg rfl) ?_
  refine RL.nil ?_
  refine Fin.next ?_
  refine CW.seq ?_
  refine CW.seq ?_
  refine CW.region ?_
  refine RL.y rfl (y_mov (by conv => lhs; whnf)) ?_
  refine RL.y rfl (y_snil sT22 hv rfl) ?_
  refine RL.nil ?_
  refine Fin.next ?_
  refine CW.cond rfl rfl (fun h1 => ?_) (fun h1 => ?_)
  · with_reducible first | (replace h1 := deNF h1) | (replace h1 := of_decide_eq_true h1) | (replace h1 := of_decide_eq_false h1) | (replace h1 := deNT h1) | (replace h1 := deNN h1) | (replace h1 := bnT h1) | (replace h1 := bnF h1) | skip
    have hx0 : xs = [] := by have := isNilS_nil hv h1; simpa [ints] using this
    subst hx0
    refine CW.seq ?_
    refine CW.region ?_
    refine RL.y rfl (y_asg rfl) ?_
    refine RL.nil ?_
    refine Fin.next ?_
    refine CW.ret ?_
    refine Fin.thenRet ?_
    refine Fin.ret1 rfl (by conv => lhs; whnf) ?_
    exact ⟨_, rfl, OV.nil _ _ _, Ext.refl _⟩
  · with_reducible first | (replace h1 := deNF h1) | (replace h1 := of_decide_eq_true h1) | (replace h1 := of_decide_eq_false h1) | (replace h1 := deNT h1) | (replace h1 := deNN h1) | (replace h1 := bnT h1) | (replace h1 := bnF h1) | skip
    refine CW.skip ?_
    refine Fin.next ?_
    refine CW.seq ?_
    refine CW.region ?_
    refine RL.lit0 rfl sT22 (fun vo w1 ho1 hE1 hb1 => ?_)
    refine RL.y rfl (y_mov (by conv => lhs; whnf)) ?_
    refine RL.app rfl sT22 ho1 (hv.ext hE1) (ints_one _) (by simp [ints]; omega) (by simp [ints]; omega) hE1.size rfl rfl (fun v2 w2 ho2 hg2 hn2 => ?_)
    refine RL.y rfl (y_asg (by conv => lhs; whnf)) ?_
    refine RL.nil ?_
    refine Fin.next ?_
    refine CW.ret ?_
    refine Fin.ret1 rfl (by conv => lhs; whnf) ?_
    exact ⟨_, rfl, by simpa using ho2, hE1.grown hg2 (fun b hb => (ho1.lt b hb).1)⟩

theorem CloneB_any {w : World} {v : Value} {xs : List Bool} (hv : SB w v xs) (hlen : xs.length ≤ 1048576) :
    Does Try.prog 121 #[v] w (fun v' w' => OV w' w.heap.size 4 v' (bools xs) ∧ Ext w w') := by
  refine enter Try.func121 rfl 8 Try.ntmps121 rfl (by kernel_rfl) ?_
  refine CW.seq ?_
  refine CW.region ?_
  refine RL.y rfl (y_asg rfl) ?_
  refine RL.nil ?_
  refine Fin.next ?_
  refine CW.seq ?_
  refine CW.seq ?_
  refine CW.region ?_
  refine RL.y rfl (y_mov (by conv => lhs; whnf)) ?_
  refine RL.y rfl (y_snil sT23 hv rfl) ?_
  refine RL.nil ?_
  refine Fin.next ?_
  refine CW.cond rfl rfl (fun h1 => ?_) (fun h1 => ?_)
  · with_reducible first | (replace h1 := deNF h1) | (replace h1 := of_decide_eq_true h1) | (replace h1 := of_decide_eq_false h1) | (replace h1 := deNT h1) | (replace h1 := deNN h1) | (replace h1 := bnT h1) | (replace h1 := bnF h1) | skip
    have hx0 : xs = [] := by have := isNilS_nil hv h1; simpa [bools] using this
    subst hx0
    refine CW.seq ?_
    refine CW.region ?_
    refine RL.y rfl (y_asg rfl) ?_
    refine RL.nil ?_
    refine Fin.next ?_
    refine CW.ret ?_
    refine Fin.thenRet ?_
    refine Fin.ret1 rfl (by conv => lhs; whnf) ?_
    exact ⟨_, rfl, OV.nil _ _ _, Ext.refl _⟩
  · with_reducible first | (replace h1 := deNF h1) | (replace h1 := of_decide_eq_true h1) | (replace h1 := of_decide_eq_false h1) | (replace h1 := deNT h1) | (replace h1 := deNN h1) | (replace h1 := bnT h1) | (replace h1 := bnF h1) | skip
    refine CW.skip ?_
    refine Fin.next ?_
    refine CW.seq ?_
    refine CW.region ?_
    refine RL.lit0 rfl sT23 (fun vo w1 ho1 hE1 hb1 => ?_)
    refine RL.y rfl (y_mov (by conv => lhs; whnf)) ?_
    refine RL.app rfl sT23 ho1 (hv.ext hE1) (bools_one _) (by simp [bools]; omega) (by simp [bools]; omega) hE1.size rfl rfl (fun v2 w2 ho2 hg2 hn2 => ?_)
    refine RL.y rfl (y_asg (by conv => lhs; whnf)) ?_
    refine RL.nil ?_
    refine Fin.next ?_
    refine CW.ret ?_
    refine Fin.ret1 rfl (by conv => lhs; whnf) ?_
    exact ⟨_, rfl, by simpa using ho2, hE1.grown hg2 (fun b hb => (ho1.lt b hb).1)⟩

theorem DeleteFunc_any {w0 w : World} {B : Nat} {v : Value} {xs : List Int} {f : Nat} {cl : List Value} (p : Int → Bool) (hE0 : Ext w0 w) (hB : w0.heap.size ≤ B) (hv : OV w B 2 v (ints xs)) (hf : ∀ w' x, Ext w0 w' → x ∈ xs → Does Try.prog f ([Value.int .i64 x] ++ cl).toArray w' (fun r w'' => r = .bool (p x) ∧ Ext w' w'')) :
    Does Try.prog 90 #[v, .func (.func f) #[] cl.toArray] w (fun v' w' => OV w' B 2 v' (ints (xs.filter (fun x => !p x))) ∧ Ext w0 w') := by
  have hxl := SI.le hv.sv
  refine enter Try.func90 rfl 42 Try.ntmps90 rfl (by kernel_rfl) ?_
  refine CW.seq ?_
  refine CW.region ?_
  refine RL.y rfl (y_asg rfl) ?_
  refine RL.nil ?_
  refine Fin.next ?_
  refine CW.seq ?_
  refine CW.region ?_
  refine RL.y rfl (y_mov (by conv => lhs; whnf)) ?_
  refine RL.y rfl (y_mov (by conv => lhs; whnf)) ?_
  refine RL.call rfl (IndexFuncI_any p hv.sv (fun w' x h hx => hf w' x (hE0.trans h) hx)) ?_
  rintro r w1 ⟨i, rfl, hi, hE1⟩
  refine RL.y rfl (y_asg (v := .int _ _) rfl) ?_
  refine RL.nil ?_
  refine Fin.next ?_
  refine CW.seq ?_
  refine CW.seq ?_
  refine CW.region ?_
  refine RL.y rfl (y_mov (v := .int _ _) rfl) ?_
  refine RL.y rfl (y_eq rfl rfl) ?_
  refine RL.nil ?_
  refine Fin.next ?_
  refine CW.cond rfl rfl (fun h1 => ?_) (fun h1 => ?_)
  · with_reducible first | (replace h1 := deNF h1) | (replace h1 := of_decide_eq_true h1) | (replace h1 := of_decide_eq_false h1) | (replace h1 := deNT h1) | (replace h1 := deNN h1) | (replace h1 := bnT h1) | (replace h1 := bnF h1) | skip
    have hno : ∀ x ∈ xs, p x = false := by rcases hi with ⟨_, h⟩ | ⟨k, hk, _⟩; exact h; omega
    refine CW.seq ?_
    refine CW.region ?_
    refine RL.y rfl (y_mov (by conv => lhs; whnf)) ?_
    refine RL.y rfl (y_asg (by conv => lhs; whnf)) ?_
    refine RL.nil ?_
    refine Fin.next ?_
    refine CW.ret ?_
    refine Fin.thenRet ?_
    refine Fin.ret1 rfl (by conv => lhs; whnf) ?_
    exact ⟨_, rfl, by rw [filter_all (fun x hx => by rw [hno x hx]; rfl)]; exact hv.ext hE1, hE0.trans hE1⟩
  · with_reducible first | (replace h1 := deNF h1) | (replace h1 := of_decide_eq_true h1) | (replace h1 := of_decide_eq_false h1) | (replace h1 := deNT h1) | (replace h1 := deNN h1) | (replace h1 := bnT h1) | (replace h1 := bnF h1) | skip
    obtain ⟨k0, rfl, hk0, hpk, hno⟩ : ∃ k : Nat, i = (k : Int) ∧ ∃ h : k < xs.length, p xs[k] = true ∧ ∀ x ∈ xs.take k, p x = false := by rcases hi with ⟨h, _⟩ | h; exact absurd h h1; exact h
    have hE01 := hE0.trans hE1
    have hf0 : (xs.take (k0 + 1)).filter (fun x => !p x) = xs.take k0 := by rw [filter_snoc hk0, filter_all (fun x hx => by rw [hno x hx]; rfl), hpk]; simp
    refine CW.skip ?_
    refine Fin.next ?_
    refine CW.seq ?_
    refine CW.seq ?_
    refine CW.region ?_
    refine RL.y rfl (y_mov (v := .int _ _) rfl) ?_
    refine RL.y rfl (y_add rfl rfl (IntWalk.i64_in _ (by omega))) ?_
    refine RL.y rfl (y_asg (v := .int _ _) rfl) ?_
    refine RL.nil ?_
    refine Fin.next ?_
    refine CW.block ?_
    refine CW.loop (fun m E w' => ∃ (j i : Nat) (ys : List Int), m = xs.length - j ∧ j ≤ xs.length ∧ agrees E [(0, v), (1, .func (.func f) #[] cl.toArray), (5, .int .i64 (i : Int)), (6, .int .i64 (j : Int))] ∧ OV w' B 2 v (ints ys) ∧ ys.length = xs.length ∧ ys.drop j = xs.drop j ∧ ys.take i = (xs.take j).filter (fun x => !p x) ∧ i < j ∧ Ext w0 w') _ (⟨k0 + 1, k0, xs, rfl, by omega, ⟨rfl, rfl, rfl, rfl, trivial⟩, hv.ext hE1, rfl, rfl, hf0.symm, by omega, hE01⟩) ?_
    · rintro m E w2 ⟨j, i, ys, rfl, hj, hag, ho2, hyl, hdr, htk, hij, hE2⟩
      refine CW.re _ hag rfl ?_
      refine CW.seq ?_
      refine CW.seq ?_
      refine CW.region ?_
      refine RL.y rfl (y_mov (v := .int _ _) rfl) ?_
      refine RL.y rfl (y_mov (by conv => lhs; whnf)) ?_
      refine RL.y rfl (y_len sT22 ho2.sv ((ints_len _).trans hyl) rfl) ?_
      refine RL.y rfl (y_lt rfl rfl) ?_
      refine RL.nil ?_
      refine Fin.next ?_
      refine CW.cond rfl rfl (fun hc => ?_) (fun hc => ?_)
      · with_reducible first | (replace hc := deNF hc) | (replace hc := of_decide_eq_true hc) | (replace hc := of_decide_eq_false hc) | (replace hc := deNT hc) | (replace hc := deNN hc) | (replace hc := bnT hc) | (replace hc := bnF hc) | skip
        have hlt : j < xs.length := by omega
        have hlty : j < ys.length := by omega
        have hyx : ys[j] = xs[j] := drop_get hdr hlty hlt
        have hdr1 : ys.drop (j + 1) = xs.drop (j + 1) := by have h2 := congrArg (List.drop 1) hdr; simpa [List.drop_drop] using h2
        have hil : ((xs.take j).filter (fun x => !p x)).length = i := by rw [← htk]; simp; omega
        refine CW.skip ?_
        refine Fin.next ?_
        refine CW.seq ?_
        refine CW.block ?_
        refine CW.seq ?_
        refine CW.region ?_
        refine RL.y rfl (y_mov (by conv => lhs; whnf)) ?_
        refine RL.y rfl (y_mov (v := .int _ _) rfl) ?_
        refine RL.y rfl (y_ixa sT22 (eqw (ho2.sv)) (k := j) (ints_lt hlty) rfl rfl) ?_
        refine RL.y rfl (y_load sc2 (eqw (ho2.sv)) (ints_at hlty) rfl) ?_
        refine RL.y rfl (y_asg (v := .int _ _) rfl) ?_
        refine RL.nil ?_
        refine Fin.next ?_
        refine CW.seq ?_
        refine CW.region ?_
        refine RL.y rfl (y_mov (by conv => lhs; whnf)) ?_
        refine RL.y rfl (y_mov (v := .int _ _) rfl) ?_
        refine RL.callw rfl rfl (hf w2 ys[j] hE2 (by rw [hyx]; exact List.getElem_mem hlt)) ?_
        rintro r w3 ⟨rfl, hE3⟩
        refine RL.y rfl (y_not rfl) ?_
        refine RL.nil ?_
        refine Fin.next ?_
        refine CW.cond rfl rfl (fun h2 => ?_) (fun h2 => ?_)
        · with_reducible first | (replace h2 := deNF h2) | (replace h2 := of_decide_eq_true h2) | (replace h2 := of_decide_eq_false h2) | (replace h2 := deNT h2) | (replace h2 := deNN h2) | (replace h2 := bnT h2) | (replace h2 := bnF h2) | skip
          have hil2 : i < ys.length := by omega
          have hpx : p xs[j] = false := by rw [← hyx]; simpa using h2
          refine CW.seq ?_
          refine CW.region ?_
          refine RL.y rfl (y_mov (by conv => lhs; whnf)) ?_
          refine RL.y rfl (y_mov (v := .int _ _) rfl) ?_
          refine RL.y rfl (y_mov (v := .int _ _) rfl) ?_
          refine RL.y rfl (y_ixa sT22 (eqw ((ho2.ext hE3).sv)) (k := i) (ints_lt hil2) rfl rfl) ?_
          refine RL.store sT22 (ho2.ext hE3) (k := i) (x := .int .i64 ys[j]) (ints_lt hil2) rfl rfl rfl (fun w4 ho4 hg4 => ?_)
          rw [ints_set] at ho4
          refine RL.nil ?_
          refine Fin.next ?_
          refine CW.region ?_
          refine RL.y rfl (y_mov (v := .int _ _) rfl) ?_
          refine RL.y rfl (y_add rfl rfl (IntWalk.i64_in _ (by omega))) ?_
          refine RL.y rfl (y_asg (v := .int _ _) rfl) ?_
          refine RL.nil ?_
          refine Fin.blockNormal ?_
          refine Fin.next ?_
          refine CW.region ?_
          refine RL.y rfl (y_mov (v := .int _ _) rfl) ?_
          refine RL.y rfl (y_add rfl rfl (IntWalk.i64_in _ (by omega))) ?_
          refine RL.y rfl (y_asg (v := .int _ _) rfl) ?_
          refine RL.nil ?_
          refine Fin.le ?_
          exact ⟨xs.length - (j + 1), by omega, j + 1, i + 1, ys.set i ys[j], rfl, hlt, ⟨rfl, rfl, rfl, rfl, trivial⟩, ho4, by simpa using hyl, by rw [List.drop_set_of_lt (by omega)]; exact hdr1, by rw [filter_snoc hlt, hpx, List.take_succ_eq_append_getElem (by simpa using hil2), List.getElem_set_self, List.take_set_of_le (Nat.le_refl _), htk, hyx]; simp, by omega, (hE2.trans hE3).grown hg4 (fun b hb => by have := (ho2.lt b hb).1; omega)⟩
        · with_reducible first | (replace h2 := deNF h2) | (replace h2 := of_decide_eq_true h2) | (replace h2 := of_decide_eq_false h2) | (replace h2 := deNT h2) | (replace h2 := deNN h2) | (replace h2 := bnT h2) | (replace h2 := bnF h2) | skip
          have hpx : p xs[j] = true := by rw [← hyx]; simpa using h2
          refine CW.skip ?_
          refine Fin.blockNormal ?_
          refine Fin.next ?_
          refine CW.region ?_
          refine RL.y rfl (y_mov (v := .int _ _) rfl) ?_
          refine RL.y rfl (y_add rfl rfl (IntWalk.i64_in _ (by omega))) ?_
          refine RL.y rfl (y_asg (v := .int _ _) rfl) ?_
          refine RL.nil ?_
          refine Fin.le ?_
          exact ⟨xs.length - (j + 1), by omega, j + 1, i, ys, rfl, hlt, ⟨rfl, rfl, rfl, rfl, trivial⟩, ho2.ext hE3, hyl, hdr1, by rw [filter_snoc hlt, hpx]; simpa using htk, by omega, hE2.trans hE3⟩
      · with_reducible first | (replace hc := deNF hc) | (replace hc := of_decide_eq_true hc) | (replace hc := of_decide_eq_false hc) | (replace hc := deNT hc) | (replace hc := deNN hc) | (replace hc := bnT hc) | (replace hc := bnF hc) | skip
        obtain rfl : j = xs.length := by omega
        rw [List.take_length] at htk
        refine CW.exit ?_
        refine Fin.thenExit ?_
        refine Fin.thenExit ?_
        refine Fin.blockHit ?_
        refine Fin.next ?_
        refine CW.seq ?_
        refine CW.region ?_
        refine RL.y rfl (y_mov (by conv => lhs; whnf)) ?_
        refine RL.y rfl (y_mov (v := .int _ _) rfl) ?_
        refine RL.y rfl (y_cutL sT22 (eqw (ho2.sv)) (l := i) (by rw [ints_len]; omega) rfl rfl ) ?_
        refine RL.clear sT22 rfl (i := i) ho2 (by rw [ints_len]; omega) rfl rfl (fun w3 zs ho3 hzl hzt hg3 => ?_)
        have hzl2 : zs.length = ys.length := hzl.trans (ints_len _)
        refine RL.nil ?_
        refine Fin.next ?_
        refine CW.seq ?_
        refine CW.region ?_
        refine RL.y rfl (y_mov (by conv => lhs; whnf)) ?_
        refine RL.y rfl (y_mov (v := .int _ _) rfl) ?_
        refine RL.y rfl (y_cutH sT22 (eqw (ho3.sv)) (h := i) (by omega) rfl rfl ) ?_
        have hres := ho3.head (k := i) (by omega)
        rw [hzt, show (ints ys).take i = ints (ys.take i) from by simp [ints], htk] at hres
        refine RL.y rfl (y_asg (by conv => lhs; whnf)) ?_
        refine RL.nil ?_
        refine Fin.next ?_
        refine CW.ret ?_
        refine Fin.ret1 rfl (by conv => lhs; whnf) ?_
        exact ⟨_, rfl, hres, hE2.grown hg3 (fun b hb => by have := (ho2.lt b hb).1; omega)⟩
end Go.Proofs.Ytkkeipogkjlneaa
