/-
  What package slices does: IndexFunc, ContainsFunc, Index, Clone, DeleteFunc.
-/
import Derived.Test.YtaepdknmagaokaaFInts
import Derived.Test.YtaepdknmagaokaaPart
namespace Go.Proofs.Ytaepdknmagaokaa
open B Go.RowKit

theorem IndexFuncI_any {w : World} {v : Value} {xs : List Int} {f : Nat} {cl : List Value} (p : Int → Bool) (hv : SI w v xs) (hf : ∀ w' x, Ext w w' → x ∈ xs → Does Try.prog f ([Value.int .i64 x] ++ cl).toArray w' (fun r w'' => r = .bool (p x) ∧ Ext w' w'')) :
    Does Try.prog 120 #[v, .func (.func f) #[] cl.toArray] w (fun r w' => ∃ i : Int, r = .int .i64 i ∧ idxF p xs i ∧ Ext w w') := by
  have hxl := SI.le hv
  refine enter Try.func120 rfl 19 Try.ntmps120 rfl (by kernel_rfl) ?_
  refine CW.seq ?_
  refine CW.region ?_
  refine RL.y rfl (y_asg rfl) ?_
  refine RL.nil ?_
  refine Fin.next ?_
  refine CW.seq ?_
  refine CW.seq ?_
  refine CW.region ?_
  refine RL.y rfl (y_mov (by conv => lhs; whnf)) ?_
  refine RL.y rfl (y_len sT29 hv (ints_len _) rfl) ?_
  refine RL.y rfl (y_mov rfl) ?_
  refine RL.nil ?_
  refine Fin.next ?_
  refine CW.block ?_
  refine CW.loop (fun m E w' => ∃ k : Nat, m = xs.length - k ∧ k ≤ xs.length ∧ agrees E [(0, v), (1, .func (.func f) #[] cl.toArray), (7, .int .i64 xs.length), (8, .int .i64 (k : Int))] ∧ (∀ x ∈ xs.take k, p x = false) ∧ Ext w w') _ ⟨0, rfl, Nat.zero_le _, ⟨rfl, rfl, rfl, rfl, trivial⟩, by simp, Ext.refl w⟩ ?_
  · rintro m E w2 ⟨k, rfl, hkk, hagk, hno, hE2⟩
    refine CW.re _ hagk rfl ?_
    clear hagk
    refine CW.seq ?_
    refine CW.region ?_
    refine RL.y rfl (y_lt rfl rfl) ?_
    refine RL.nil ?_
    refine Fin.next ?_
    refine CW.seq ?_
    refine CW.cond rfl rfl (fun hck => ?_) (fun hck => ?_)
    · with_reducible first | (replace hck := deNF hck) | (replace hck := of_decide_eq_true hck) | (replace hck := of_decide_eq_false hck) | (replace hck := deNT hck) | (replace hck := deNN hck) | (replace hck := bnT hck) | (replace hck := bnF hck) | skip
      have hltk : k < xs.length := by omega
      refine CW.skip ?_
      refine Fin.next ?_
      refine CW.seq ?_
      refine CW.block ?_
      refine CW.seq ?_
      refine CW.region ?_
      refine RL.y rfl (y_mov (v := .int _ _) rfl) ?_
      refine RL.y rfl (y_asg (v := .int _ _) rfl) ?_
      refine RL.nil ?_
      refine Fin.next ?_
      refine CW.seq ?_
      refine CW.region ?_
      refine RL.y rfl (y_mov (by conv => lhs; whnf)) ?_
      refine RL.y rfl (y_mov (by conv => lhs; whnf)) ?_
      refine RL.y rfl (y_mov (v := .int _ _) rfl) ?_
      refine RL.y rfl (y_ixa sT29 (eqw (hv.ext hE2)) (k := k) (ints_lt hltk) rfl rfl) ?_
      refine RL.y rfl (y_load sc2 (eqw (hv.ext hE2)) (ints_at hltk) rfl) ?_
      refine RL.callw rfl rfl (hf w2 _ hE2 (List.getElem_mem hltk)) ?_
      rintro r w3 ⟨rfl, hE3⟩
      refine RL.nil ?_
      refine Fin.next ?_
      refine CW.cond rfl rfl (fun h1 => ?_) (fun h1 => ?_)
      · with_reducible first | (replace h1 := deNF h1) | (replace h1 := of_decide_eq_true h1) | (replace h1 := of_decide_eq_false h1) | (replace h1 := deNT h1) | (replace h1 := deNN h1) | (replace h1 := bnT h1) | (replace h1 := bnF h1) | skip
        refine CW.seq ?_
        refine CW.region ?_
        refine RL.y rfl (y_mov (v := .int _ _) rfl) ?_
        refine RL.y rfl (y_asg (v := .int _ _) rfl) ?_
        refine RL.nil ?_
        refine Fin.next ?_
        refine CW.ret ?_
        refine Fin.blockRet ?_
        refine Fin.thenRet ?_
        refine Fin.thenRet ?_
        refine Fin.blockRet ?_
        refine Fin.thenRet ?_
        refine Fin.ret1 rfl (by conv => lhs; whnf) ?_
        exact ⟨_, rfl, _, rfl, .inr ⟨k, rfl, hltk, h1, hno⟩, hE2.trans hE3⟩
      · with_reducible first | (replace h1 := deNF h1) | (replace h1 := of_decide_eq_true h1) | (replace h1 := of_decide_eq_false h1) | (replace h1 := deNT h1) | (replace h1 := deNN h1) | (replace h1 := bnT h1) | (replace h1 := bnF h1) | skip
        refine CW.skip ?_
        refine Fin.blockNormal ?_
        refine Fin.next ?_
        refine CW.region ?_
        refine RL.y rfl (y_add rfl rfl (IntWalk.i64_in _ (by omega))) ?_
        refine RL.y rfl (y_mov (v := .int _ _) rfl) ?_
        refine RL.nil ?_
        refine Fin.le ?_
        exact ⟨xs.length - (k + 1), by omega, k + 1, rfl, hltk, ⟨rfl, rfl, rfl, rfl, trivial⟩, all_snoc hltk hno h1, hE2.trans hE3⟩
    · with_reducible first | (replace hck := deNF hck) | (replace hck := of_decide_eq_true hck) | (replace hck := of_decide_eq_false hck) | (replace hck := deNT hck) | (replace hck := deNN hck) | (replace hck := bnT hck) | (replace hck := bnF hck) | skip
      obtain rfl : xs.length = k := by omega
      rw [List.take_length] at hno
      refine CW.exit ?_
      refine Fin.thenExit ?_
      refine Fin.thenExit ?_
      refine Fin.blockHit ?_
      refine Fin.next ?_
      refine CW.seq ?_
      refine CW.region ?_
      refine RL.y rfl (y_asg rfl) ?_
      refine RL.nil ?_
      refine Fin.next ?_
      refine CW.ret ?_
      refine Fin.ret1 rfl (by conv => lhs; whnf) ?_
      exact ⟨_, rfl, _, rfl, .inl ⟨rfl, hno⟩, hE2⟩

theorem ContainsFuncI_any {w : World} {v : Value} {xs : List Int} {f : Nat} {cl : List Value} (p : Int → Bool) (hv : SI w v xs) (hf : ∀ w' x, Ext w w' → x ∈ xs → Does Try.prog f ([Value.int .i64 x] ++ cl).toArray w' (fun r w'' => r = .bool (p x) ∧ Ext w' w'')) :
    Does Try.prog 105 #[v, .func (.func f) #[] cl.toArray] w (fun r w' => r = .bool (xs.any p) ∧ Ext w w') := by
  refine enter Try.func105 rfl 9 Try.ntmps105 rfl (by kernel_rfl) ?_
  refine CW.seq ?_
  refine CW.region ?_
  refine RL.y rfl (y_asg rfl) ?_
  refine RL.nil ?_
  refine Fin.next ?_
  refine CW.seq ?_
  refine CW.region ?_
  refine RL.y rfl (y_mov (by conv => lhs; whnf)) ?_
  refine RL.y rfl (y_mov (by conv => lhs; whnf)) ?_
  refine RL.call rfl (IndexFuncI_any p hv hf) ?_
  rintro r w1 ⟨i, rfl, hi, hE⟩
  refine RL.y rfl (y_ge rfl rfl) ?_
  refine RL.y rfl (y_asg (v := .bool _) rfl) ?_
  refine RL.nil ?_
  refine Fin.next ?_
  refine CW.ret ?_
  refine Fin.ret1 rfl (by conv => lhs; whnf) ?_
  exact ⟨_, rfl, congrArg Value.bool (idxF_any hi), hE⟩






end Go.Proofs.Ytaepdknmagaokaa
