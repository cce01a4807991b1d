/-
  Strictly increasing lists; equal lists.
-/
import Derived.Test.YtaepdknmagaokaaFNum
namespace Go.Proofs.Ytaepdknmagaokaa
open B Go.RowKit

theorem l01Rises_any {w : World} {v : Value} {xs : List Int} {n : Int} (hv : SI w v xs) :
    Does Try.prog 117 #[v, .int .i64 n] w (fun r w' => r = .bool (decide (rises xs n)) ∧ Ext w w') := by
  have hxl := SI.le hv
  refine enter Try.func117 rfl 41 Try.ntmps117 rfl (by kernel_rfl) ?_
  refine CW.seq ?_
  refine CW.region ?_
  refine RL.y rfl (y_asg rfl) ?_
  refine RL.nil ?_
  refine Fin.next ?_
  refine CW.seq ?_
  refine CW.seq ?_
  refine CW.region ?_
  refine RL.y rfl (y_asg rfl) ?_
  refine RL.nil ?_
  refine Fin.next ?_
  refine CW.block ?_
  refine CW.loop (fun m E w' => ∃ k : Nat, m = xs.length - k ∧ k ≤ xs.length ∧ agrees E [(0, v), (1, .int .i64 n), (5, .int .i64 (k : Int))] ∧ risesTo xs n k ∧ Ext w w') _ ⟨0, rfl, Nat.zero_le _, ⟨rfl, rfl, rfl, trivial⟩, (fun i hi => absurd hi (Nat.not_lt_zero i)), Ext.refl w⟩ ?_
  · rintro m E w2 ⟨k, rfl, hkk, hagk, hr, hE2⟩
    refine CW.re _ hagk rfl ?_
    clear hagk
    refine CW.seq ?_
    refine CW.seq ?_
    refine CW.region ?_
    refine RL.y rfl (y_mov (v := .int _ _) rfl) ?_
    refine RL.y rfl (y_mov (by conv => lhs; whnf)) ?_
    refine RL.y rfl (y_len sT29 hv (ints_len _) rfl) ?_
    refine RL.y rfl (y_lt rfl rfl) ?_
    refine RL.nil ?_
    refine Fin.next ?_
    refine CW.cond rfl rfl (fun hck => ?_) (fun hck => ?_)
    · with_reducible first | (replace hck := deNF hck) | (replace hck := of_decide_eq_true hck) | (replace hck := of_decide_eq_false hck) | (replace hck := deNT hck) | (replace hck := deNN hck) | (replace hck := bnT hck) | (replace hck := bnF hck) | skip
      have hltk : k < xs.length := by omega
      have hg : xs.getD k 0 = xs[k] := getD_lt hltk
      have hno : ∀ p : Prop, ¬ p → (rises xs n → p) → ¬ rises xs n := fun p hp hi h => hp (hi h)
      refine CW.skip ?_
      refine Fin.next ?_
      refine CW.seq ?_
      refine CW.block ?_
      refine CW.seq ?_
      refine CW.quietE mixed (by kernel_rfl) ?_
      refine QL.y rfl (y_mov (by conv => lhs; whnf)) ?_
      refine QL.y rfl (y_mov (v := .int _ _) rfl) ?_
      refine QL.y rfl (y_ixa sT29 (fun _ hC => (hv.ext hE2).ext hC) (k := k) (ints_lt hltk) rfl rfl) ?_
      refine QL.y rfl (y_load sc2 (fun _ hC => (hv.ext hE2).ext hC) (ints_at hltk) rfl) ?_
      refine QL.y rfl (y_lt rfl rfl) ?_
      refine QL.y rfl (y_mov (v := .bool _) rfl) ?_
      refine QL.split (t := 17) rfl rfl (fun hb => ?_) (fun hb => ?_)
      · with_reducible first | (replace hb := deNF hb) | (replace hb := of_decide_eq_true hb) | (replace hb := of_decide_eq_false hb) | (replace hb := deNT hb) | (replace hb := deNN hb) | (replace hb := bnT hb) | (replace hb := bnF hb) | skip
        refine QL.pass (t := 17) rfl rfl rfl rfl ?_
        refine QL.pass (t := 17) rfl rfl rfl rfl ?_
        refine QL.pass (t := 17) rfl rfl rfl rfl ?_
        refine QL.pass (t := 17) rfl rfl rfl rfl ?_
        refine QL.pass (t := 17) rfl rfl rfl rfl ?_
        refine QL.pass (t := 17) rfl rfl rfl rfl ?_
        refine QL.y rfl (y_pickT (v := .bool _) rfl rfl) ?_
        refine QL.y rfl (y_mov (v := .bool _) rfl) ?_
        refine QL.pass (t := 25) rfl rfl rfl rfl ?_
        refine QL.pass (t := 25) rfl rfl rfl rfl ?_
        refine QL.pass (t := 25) rfl rfl rfl rfl ?_
        refine QL.pass2 (t := 28) rfl rfl rfl rfl ?_
        refine QL.pass2 (t := 28) rfl rfl rfl rfl ?_
        refine QL.pass2 (t := 28) rfl rfl rfl rfl ?_
        refine QL.pass2 (t := 28) rfl rfl rfl rfl ?_
        refine QL.pass2 (t := 28) rfl rfl rfl rfl ?_
        refine QL.pass2 (t := 28) rfl rfl rfl rfl ?_
        refine QL.pass2 (t := 28) rfl rfl rfl rfl ?_
        refine QL.pass2 (t := 28) rfl rfl rfl rfl ?_
        refine QL.pass2 (t := 28) rfl rfl rfl rfl ?_
        refine QL.pass2 (t := 28) rfl rfl rfl rfl ?_
        refine QL.pass (t := 25) rfl rfl rfl rfl ?_
        refine QL.y rfl (y_pickT (v := .bool _) rfl rfl) ?_
        refine QL.nil (fun w3 hE3 => ?_)
        refine Fin.next ?_
        refine CW.condT rfl rfl ?_
        refine CW.seq ?_
        refine CW.region ?_
        refine RL.y rfl (y_asg rfl) ?_
        refine RL.nil ?_
        refine Fin.next ?_
        refine CW.ret ?_
        refine Fin.blockRet ?_
        refine Fin.thenRet ?_
        refine Fin.thenRet ?_
        refine Fin.blockRet ?_
        refine Fin.thenRet ?_
        refine Fin.ret1 rfl (by conv => lhs; whnf) ?_
        exact ⟨_, rfl, bF (hno _ (by omega) (fun h => hg ▸ (h k hltk).1)), hE2.trans hE3⟩
      · with_reducible first | (replace hb := deNF hb) | (replace hb := of_decide_eq_true hb) | (replace hb := of_decide_eq_false hb) | (replace hb := deNT hb) | (replace hb := deNN hb) | (replace hb := bnT hb) | (replace hb := bnF hb) | skip
        refine QL.take (t := 17) rfl rfl rfl ?_
        refine QL.y rfl (y_mov (by conv => lhs; whnf)) ?_
        refine QL.take (t := 17) rfl rfl rfl ?_
        refine QL.y rfl (y_mov (v := .int _ _) rfl) ?_
        refine QL.take (t := 17) rfl rfl rfl ?_
        refine QL.y rfl (y_ixa sT29 (fun _ hC => (hv.ext hE2).ext hC) (k := k) (ints_lt hltk) rfl rfl) ?_
        refine QL.take (t := 17) rfl rfl rfl ?_
        refine QL.y rfl (y_load sc2 (fun _ hC => (hv.ext hE2).ext hC) (ints_at hltk) rfl) ?_
        refine QL.take (t := 17) rfl rfl rfl ?_
        refine QL.y rfl (y_mov (v := .int _ _) rfl) ?_
        refine QL.take (t := 17) rfl rfl rfl ?_
        refine QL.y rfl (y_ge rfl rfl) ?_
        refine QL.y rfl (y_pickF (v := .bool _) rfl rfl) ?_
        refine QL.y rfl (y_mov (v := .bool _) rfl) ?_
        refine QL.split (t := 25) rfl rfl (fun hb2 => ?_) (fun hb2 => ?_)
        · with_reducible first | (replace hb2 := deNF hb2) | (replace hb2 := of_decide_eq_true hb2) | (replace hb2 := of_decide_eq_false hb2) | (replace hb2 := deNT hb2) | (replace hb2 := deNN hb2) | (replace hb2 := bnT hb2) | (replace hb2 := bnF hb2) | skip
          refine QL.pass (t := 25) rfl rfl rfl rfl ?_
          refine QL.pass (t := 25) rfl rfl rfl rfl ?_
          refine QL.pass (t := 25) rfl rfl rfl rfl ?_
          refine QL.pass2 (t := 28) rfl rfl rfl rfl ?_
          refine QL.pass2 (t := 28) rfl rfl rfl rfl ?_
          refine QL.pass2 (t := 28) rfl rfl rfl rfl ?_
          refine QL.pass2 (t := 28) rfl rfl rfl rfl ?_
          refine QL.pass2 (t := 28) rfl rfl rfl rfl ?_
          refine QL.pass2 (t := 28) rfl rfl rfl rfl ?_
          refine QL.pass2 (t := 28) rfl rfl rfl rfl ?_
          refine QL.pass2 (t := 28) rfl rfl rfl rfl ?_
          refine QL.pass2 (t := 28) rfl rfl rfl rfl ?_
          refine QL.pass2 (t := 28) rfl rfl rfl rfl ?_
          refine QL.pass (t := 25) rfl rfl rfl rfl ?_
          refine QL.y rfl (y_pickT (v := .bool _) rfl rfl) ?_
          refine QL.nil (fun w3 hE3 => ?_)
          refine Fin.next ?_
          refine CW.condT rfl rfl ?_
          refine CW.seq ?_
          refine CW.region ?_
          refine RL.y rfl (y_asg rfl) ?_
          refine RL.nil ?_
          refine Fin.next ?_
          refine CW.ret ?_
          refine Fin.blockRet ?_
          refine Fin.thenRet ?_
          refine Fin.thenRet ?_
          refine Fin.blockRet ?_
          refine Fin.thenRet ?_
          refine Fin.ret1 rfl (by conv => lhs; whnf) ?_
          exact ⟨_, rfl, bF (hno _ (by omega) (fun h => hg ▸ (h k hltk).2.1)), hE2.trans hE3⟩
        · with_reducible first | (replace hb2 := deNF hb2) | (replace hb2 := of_decide_eq_true hb2) | (replace hb2 := of_decide_eq_false hb2) | (replace hb2 := deNT hb2) | (replace hb2 := deNN hb2) | (replace hb2 := bnT hb2) | (replace hb2 := bnF hb2) | skip
          refine QL.take (t := 25) rfl rfl rfl ?_
          refine QL.y rfl (y_mov (v := .int _ _) rfl) ?_
          refine QL.take (t := 25) rfl rfl rfl ?_
          refine QL.y rfl (y_gt rfl rfl) ?_
          refine QL.take (t := 25) rfl rfl rfl ?_
          refine QL.y rfl (y_mov (v := .bool _) rfl) ?_
          refine QL.split (t := 28) rfl rfl (fun hb3 => ?_) (fun hb3 => ?_)
          · with_reducible first | (replace hb3 := deNF hb3) | (replace hb3 := of_decide_eq_true hb3) | (replace hb3 := of_decide_eq_false hb3) | (replace hb3 := deNT hb3) | (replace hb3 := deNN hb3) | (replace hb3 := bnT hb3) | (replace hb3 := bnF hb3) | skip
            have hk1 : k - 1 < xs.length := by omega
            have hg1 : xs.getD (k - 1) 0 = xs[k - 1] := getD_lt hk1
            refine QL.take (t := 28) rfl rfl rfl ?_
            refine QL.y rfl (y_mov (by conv => lhs; whnf)) ?_
            refine QL.take (t := 28) rfl rfl rfl ?_
            refine QL.y rfl (y_mov (v := .int _ _) rfl) ?_
            refine QL.take (t := 28) rfl rfl rfl ?_
            refine QL.y rfl (y_ixa sT29 (fun _ hC => (hv.ext hE2).ext hC) (k := k) (ints_lt hltk) rfl rfl) ?_
            refine QL.take (t := 28) rfl rfl rfl ?_
            refine QL.y rfl (y_load sc2 (fun _ hC => (hv.ext hE2).ext hC) (ints_at hltk) rfl) ?_
            refine QL.take (t := 28) rfl rfl rfl ?_
            refine QL.y rfl (y_mov (by conv => lhs; whnf)) ?_
            refine QL.take (t := 28) rfl rfl rfl ?_
            refine QL.y rfl (y_mov (v := .int _ _) rfl) ?_
            refine QL.take (t := 28) rfl rfl rfl ?_
            refine QL.y rfl (y_sub rfl rfl ((show IntKind.i64.wrap ((k : Int) - 1) = ((k - 1 : Nat) : Int) by rw [IntWalk.i64_in _ (by omega)]; omega))) ?_
            refine QL.take (t := 28) rfl rfl rfl ?_
            refine QL.y rfl (y_ixa sT29 (fun _ hC => (hv.ext hE2).ext hC) (k := k - 1) (ints_lt hk1) rfl rfl) ?_
            refine QL.take (t := 28) rfl rfl rfl ?_
            refine QL.y rfl (y_load sc2 (fun _ hC => (hv.ext hE2).ext hC) (ints_at hk1) rfl) ?_
            refine QL.take (t := 28) rfl rfl rfl ?_
            refine QL.y rfl (y_le rfl rfl) ?_
            refine QL.take (t := 25) rfl rfl rfl ?_
            refine QL.y rfl (y_pickT (v := .bool _) rfl rfl) ?_
            refine QL.y rfl (y_pickF (v := .bool _) rfl rfl) ?_
            refine QL.nil (fun w3 hE3 => ?_)
            refine Fin.next ?_
            refine CW.cond rfl rfl (fun hb4 => ?_) (fun hb4 => ?_)
            · with_reducible first | (replace hb4 := deNF hb4) | (replace hb4 := of_decide_eq_true hb4) | (replace hb4 := of_decide_eq_false hb4) | (replace hb4 := deNT hb4) | (replace hb4 := deNN hb4) | (replace hb4 := bnT hb4) | (replace hb4 := bnF hb4) | skip
              refine CW.seq ?_
              refine CW.region ?_
              refine RL.y rfl (y_asg rfl) ?_
              refine RL.nil ?_
              refine Fin.next ?_
              refine CW.ret ?_
              refine Fin.blockRet ?_
              refine Fin.thenRet ?_
              refine Fin.thenRet ?_
              refine Fin.blockRet ?_
              refine Fin.thenRet ?_
              refine Fin.ret1 rfl (by conv => lhs; whnf) ?_
              exact ⟨_, rfl, bF (hno _ (by omega) (fun h => hg1 ▸ hg ▸ (h k hltk).2.2 (by omega))), hE2.trans hE3⟩
            · with_reducible first | (replace hb4 := deNF hb4) | (replace hb4 := of_decide_eq_true hb4) | (replace hb4 := of_decide_eq_false hb4) | (replace hb4 := deNT hb4) | (replace hb4 := deNN hb4) | (replace hb4 := bnT hb4) | (replace hb4 := bnF hb4) | skip
              refine CW.skip ?_
              refine Fin.blockNormal ?_
              refine Fin.next ?_
              refine CW.region ?_
              refine RL.y rfl (y_mov (v := .int _ _) rfl) ?_
              refine RL.y rfl (y_add rfl rfl (IntWalk.i64_in _ (by omega))) ?_
              refine RL.y rfl (y_asg (v := .int _ _) rfl) ?_
              refine RL.nil ?_
              refine Fin.le ?_
              exact ⟨xs.length - (k + 1), by omega, k + 1, rfl, hltk, ⟨rfl, rfl, rfl, trivial⟩, risesTo_succ hr (by omega) (by omega) (fun _ => by omega), hE2.trans hE3⟩
          · with_reducible first | (replace hb3 := deNF hb3) | (replace hb3 := of_decide_eq_true hb3) | (replace hb3 := of_decide_eq_false hb3) | (replace hb3 := deNT hb3) | (replace hb3 := deNN hb3) | (replace hb3 := bnT hb3) | (replace hb3 := bnF hb3) | skip
            refine QL.pass (t := 28) rfl rfl rfl rfl ?_
            refine QL.pass (t := 28) rfl rfl rfl rfl ?_
            refine QL.pass (t := 28) rfl rfl rfl rfl ?_
            refine QL.pass (t := 28) rfl rfl rfl rfl ?_
            refine QL.pass (t := 28) rfl rfl rfl rfl ?_
            refine QL.pass (t := 28) rfl rfl rfl rfl ?_
            refine QL.pass (t := 28) rfl rfl rfl rfl ?_
            refine QL.pass (t := 28) rfl rfl rfl rfl ?_
            refine QL.pass (t := 28) rfl rfl rfl rfl ?_
            refine QL.pass (t := 28) rfl rfl rfl rfl ?_
            refine QL.take (t := 25) rfl rfl rfl ?_
            refine QL.y rfl (y_pickF (v := .bool _) rfl rfl) ?_
            refine QL.y rfl (y_pickF (v := .bool _) rfl rfl) ?_
            refine QL.nil (fun w3 hE3 => ?_)
            refine Fin.next ?_
            refine CW.condF rfl rfl ?_
            refine CW.skip ?_
            refine Fin.blockNormal ?_
            refine Fin.next ?_
            refine CW.region ?_
            refine RL.y rfl (y_mov (v := .int _ _) rfl) ?_
            refine RL.y rfl (y_add rfl rfl (IntWalk.i64_in _ (by omega))) ?_
            refine RL.y rfl (y_asg (v := .int _ _) rfl) ?_
            refine RL.nil ?_
            refine Fin.le ?_
            exact ⟨xs.length - (k + 1), by omega, k + 1, rfl, hltk, ⟨rfl, rfl, rfl, trivial⟩, risesTo_succ hr (by omega) (by omega) (fun h => absurd h (by omega)), hE2.trans hE3⟩
    · with_reducible first | (replace hck := deNF hck) | (replace hck := of_decide_eq_true hck) | (replace hck := of_decide_eq_false hck) | (replace hck := deNT hck) | (replace hck := deNN hck) | (replace hck := bnT hck) | (replace hck := bnF hck) | skip
      obtain rfl : xs.length = k := by omega
      refine CW.exit ?_
      refine Fin.thenExit ?_
      refine Fin.thenExit ?_
      refine Fin.blockHit ?_
      refine Fin.next ?_
      refine CW.seq ?_
      refine CW.region ?_
      refine RL.y rfl (y_asg rfl) ?_
      refine RL.nil ?_
      refine Fin.next ?_
      refine CW.ret ?_
      refine Fin.ret1 rfl (by conv => lhs; whnf) ?_
      exact ⟨_, rfl, bT hr, hE2⟩

theorem IsRising_any {w : World} {v : Value} {xs : List Int} {n : Int} (hv : SI w v xs) :
    Does Try.prog 119 #[v, .int .i64 n] w (fun r w' => r = .bool (decide (rises xs n)) ∧ w = w') := by
  have hxl := SI.le hv
  refine enter Try.func119 rfl 35 Try.ntmps119 rfl (by kernel_rfl) ?_
  refine CW.seq ?_
  refine CW.region ?_
  refine RL.y rfl (y_asg rfl) ?_
  refine RL.nil ?_
  refine Fin.next ?_
  refine CW.seq ?_
  refine CW.seq ?_
  refine CW.region ?_
  refine RL.y rfl (y_mov (by conv => lhs; whnf)) ?_
  refine RL.y rfl (y_len sT29 hv (ints_len _) rfl) ?_
  refine RL.y rfl (y_mov rfl) ?_
  refine RL.nil ?_
  refine Fin.next ?_
  refine CW.block ?_
  refine CW.loop (fun m E w' => ∃ k : Nat, m = xs.length - k ∧ k ≤ xs.length ∧ agrees E [(0, v), (7, v), (8, .int .i64 xs.length), (1, .int .i64 n), (9, .int .i64 (k : Int))] ∧ risesTo xs n k ∧ w = w') _ ⟨0, rfl, Nat.zero_le _, ⟨rfl, rfl, rfl, rfl, rfl, trivial⟩, (fun i hi => absurd hi (Nat.not_lt_zero i)), rfl⟩ ?_
  · rintro m E w2 ⟨k, rfl, hkk, hagk, hr, rfl⟩
    refine CW.re _ hagk rfl ?_
    clear hagk
    refine CW.seq ?_
    refine CW.region ?_
    refine RL.y rfl (y_lt rfl rfl) ?_
    refine RL.nil ?_
    refine Fin.next ?_
    refine CW.seq ?_
    refine CW.cond rfl rfl (fun hck => ?_) (fun hck => ?_)
    · with_reducible first | (replace hck := deNF hck) | (replace hck := of_decide_eq_true hck) | (replace hck := of_decide_eq_false hck) | (replace hck := deNT hck) | (replace hck := deNN hck) | (replace hck := bnT hck) | (replace hck := bnF hck) | skip
      have hltk : k < xs.length := by omega
      have hg : xs.getD k 0 = xs[k] := getD_lt hltk
      have hno : ∀ p : Prop, ¬ p → (rises xs n → p) → ¬ rises xs n := fun p hp hi h => hp (hi h)
      refine CW.skip ?_
      refine Fin.next ?_
      refine CW.seq ?_
      refine CW.block ?_
      refine CW.seq ?_
      refine CW.region ?_
      refine RL.y rfl (y_mov (v := .int _ _) rfl) ?_
      refine RL.y rfl (y_ixa sT29 (eqw (hv)) (k := k) (ints_lt hltk) rfl rfl) ?_
      refine RL.y rfl (y_load sc2 (eqw (hv)) (ints_at hltk) rfl) ?_
      refine RL.y rfl (y_asg (v := .int _ _) rfl) ?_
      refine RL.y rfl (y_asg (v := .int _ _) rfl) ?_
      refine RL.nil ?_
      refine Fin.next ?_
      refine CW.seq ?_
      refine CW.region ?_
      refine RL.y rfl (y_mov (v := .int _ _) rfl) ?_
      refine RL.y rfl (y_lt rfl rfl) ?_
      refine RL.y rfl (y_mov (v := .bool _) rfl) ?_
      refine RL.split (t := 16) rfl rfl (fun hb => ?_) (fun hb => ?_)
      · with_reducible first | (replace hb := deNF hb) | (replace hb := of_decide_eq_true hb) | (replace hb := of_decide_eq_false hb) | (replace hb := deNT hb) | (replace hb := deNN hb) | (replace hb := bnT hb) | (replace hb := bnF hb) | skip
        refine RL.pass (t := 16) rfl rfl rfl rfl ?_
        refine RL.pass (t := 16) rfl rfl rfl rfl ?_
        refine RL.pass (t := 16) rfl rfl rfl rfl ?_
        refine RL.y rfl (y_pickT (v := .bool _) rfl rfl) ?_
        refine RL.y rfl (y_mov (v := .bool _) rfl) ?_
        refine RL.pass (t := 21) rfl rfl rfl rfl ?_
        refine RL.pass (t := 21) rfl rfl rfl rfl ?_
        refine RL.pass (t := 21) rfl rfl rfl rfl ?_
        refine RL.pass2 (t := 24) rfl rfl rfl rfl ?_
        refine RL.pass2 (t := 24) rfl rfl rfl rfl ?_
        refine RL.pass2 (t := 24) rfl rfl rfl rfl ?_
        refine RL.pass2 (t := 24) rfl rfl rfl rfl ?_
        refine RL.pass2 (t := 24) rfl rfl rfl rfl ?_
        refine RL.pass2 (t := 24) rfl rfl rfl rfl ?_
        refine RL.pass2 (t := 24) rfl rfl rfl rfl ?_
        refine RL.pass (t := 21) rfl rfl rfl rfl ?_
        refine RL.y rfl (y_pickT (v := .bool _) rfl rfl) ?_
        refine RL.nil ?_
        refine Fin.next ?_
        refine CW.condT rfl rfl ?_
        refine CW.seq ?_
        refine CW.region ?_
        refine RL.y rfl (y_asg rfl) ?_
        refine RL.nil ?_
        refine Fin.next ?_
        refine CW.ret ?_
        refine Fin.blockRet ?_
        refine Fin.thenRet ?_
        refine Fin.thenRet ?_
        refine Fin.blockRet ?_
        refine Fin.thenRet ?_
        refine Fin.ret1 rfl (by conv => lhs; whnf) ?_
        exact ⟨_, rfl, bF (hno _ (by omega) (fun h => hg ▸ (h k hltk).1)), rfl⟩
      · with_reducible first | (replace hb := deNF hb) | (replace hb := of_decide_eq_true hb) | (replace hb := of_decide_eq_false hb) | (replace hb := deNT hb) | (replace hb := deNN hb) | (replace hb := bnT hb) | (replace hb := bnF hb) | skip
        refine RL.take (t := 16) rfl rfl rfl ?_
        refine RL.y rfl (y_mov (v := .int _ _) rfl) ?_
        refine RL.take (t := 16) rfl rfl rfl ?_
        refine RL.y rfl (y_mov (v := .int _ _) rfl) ?_
        refine RL.take (t := 16) rfl rfl rfl ?_
        refine RL.y rfl (y_ge rfl rfl) ?_
        refine RL.y rfl (y_pickF (v := .bool _) rfl rfl) ?_
        refine RL.y rfl (y_mov (v := .bool _) rfl) ?_
        refine RL.split (t := 21) rfl rfl (fun hb2 => ?_) (fun hb2 => ?_)
        · with_reducible first | (replace hb2 := deNF hb2) | (replace hb2 := of_decide_eq_true hb2) | (replace hb2 := of_decide_eq_false hb2) | (replace hb2 := deNT hb2) | (replace hb2 := deNN hb2) | (replace hb2 := bnT hb2) | (replace hb2 := bnF hb2) | skip
          refine RL.pass (t := 21) rfl rfl rfl rfl ?_
          refine RL.pass (t := 21) rfl rfl rfl rfl ?_
          refine RL.pass (t := 21) rfl rfl rfl rfl ?_
          refine RL.pass2 (t := 24) rfl rfl rfl rfl ?_
          refine RL.pass2 (t := 24) rfl rfl rfl rfl ?_
          refine RL.pass2 (t := 24) rfl rfl rfl rfl ?_
          refine RL.pass2 (t := 24) rfl rfl rfl rfl ?_
          refine RL.pass2 (t := 24) rfl rfl rfl rfl ?_
          refine RL.pass2 (t := 24) rfl rfl rfl rfl ?_
          refine RL.pass2 (t := 24) rfl rfl rfl rfl ?_
          refine RL.pass (t := 21) rfl rfl rfl rfl ?_
          refine RL.y rfl (y_pickT (v := .bool _) rfl rfl) ?_
          refine RL.nil ?_
          refine Fin.next ?_
          refine CW.condT rfl rfl ?_
          refine CW.seq ?_
          refine CW.region ?_
          refine RL.y rfl (y_asg rfl) ?_
          refine RL.nil ?_
          refine Fin.next ?_
          refine CW.ret ?_
          refine Fin.blockRet ?_
          refine Fin.thenRet ?_
          refine Fin.thenRet ?_
          refine Fin.blockRet ?_
          refine Fin.thenRet ?_
          refine Fin.ret1 rfl (by conv => lhs; whnf) ?_
          exact ⟨_, rfl, bF (hno _ (by omega) (fun h => hg ▸ (h k hltk).2.1)), rfl⟩
        · with_reducible first | (replace hb2 := deNF hb2) | (replace hb2 := of_decide_eq_true hb2) | (replace hb2 := of_decide_eq_false hb2) | (replace hb2 := deNT hb2) | (replace hb2 := deNN hb2) | (replace hb2 := bnT hb2) | (replace hb2 := bnF hb2) | skip
          refine RL.take (t := 21) rfl rfl rfl ?_
          refine RL.y rfl (y_mov (v := .int _ _) rfl) ?_
          refine RL.take (t := 21) rfl rfl rfl ?_
          refine RL.y rfl (y_gt rfl rfl) ?_
          refine RL.take (t := 21) rfl rfl rfl ?_
          refine RL.y rfl (y_mov (v := .bool _) rfl) ?_
          refine RL.split (t := 24) rfl rfl (fun hb3 => ?_) (fun hb3 => ?_)
          · with_reducible first | (replace hb3 := deNF hb3) | (replace hb3 := of_decide_eq_true hb3) | (replace hb3 := of_decide_eq_false hb3) | (replace hb3 := deNT hb3) | (replace hb3 := deNN hb3) | (replace hb3 := bnT hb3) | (replace hb3 := bnF hb3) | skip
            have hk1 : k - 1 < xs.length := by omega
            have hg1 : xs.getD (k - 1) 0 = xs[k - 1] := getD_lt hk1
            refine RL.take (t := 24) rfl rfl rfl ?_
            refine RL.y rfl (y_mov (by conv => lhs; whnf)) ?_
            refine RL.take (t := 24) rfl rfl rfl ?_
            refine RL.y rfl (y_mov (v := .int _ _) rfl) ?_
            refine RL.take (t := 24) rfl rfl rfl ?_
            refine RL.y rfl (y_sub rfl rfl ((show IntKind.i64.wrap ((k : Int) - 1) = ((k - 1 : Nat) : Int) by rw [IntWalk.i64_in _ (by omega)]; omega))) ?_
            refine RL.take (t := 24) rfl rfl rfl ?_
            refine RL.y rfl (y_ixa sT29 (eqw (hv)) (k := k - 1) (ints_lt hk1) rfl rfl) ?_
            refine RL.take (t := 24) rfl rfl rfl ?_
            refine RL.y rfl (y_load sc2 (eqw (hv)) (ints_at hk1) rfl) ?_
            refine RL.take (t := 24) rfl rfl rfl ?_
            refine RL.y rfl (y_mov (v := .int _ _) rfl) ?_
            refine RL.take (t := 24) rfl rfl rfl ?_
            refine RL.y rfl (y_ge rfl rfl) ?_
            refine RL.take (t := 21) rfl rfl rfl ?_
            refine RL.y rfl (y_pickT (v := .bool _) rfl rfl) ?_
            refine RL.y rfl (y_pickF (v := .bool _) rfl rfl) ?_
            refine RL.nil ?_
            refine Fin.next ?_
            refine CW.cond rfl rfl (fun hb4 => ?_) (fun hb4 => ?_)
            · with_reducible first | (replace hb4 := deNF hb4) | (replace hb4 := of_decide_eq_true hb4) | (replace hb4 := of_decide_eq_false hb4) | (replace hb4 := deNT hb4) | (replace hb4 := deNN hb4) | (replace hb4 := bnT hb4) | (replace hb4 := bnF hb4) | skip
              refine CW.seq ?_
              refine CW.region ?_
              refine RL.y rfl (y_asg rfl) ?_
              refine RL.nil ?_
              refine Fin.next ?_
              refine CW.ret ?_
              refine Fin.blockRet ?_
              refine Fin.thenRet ?_
              refine Fin.thenRet ?_
              refine Fin.blockRet ?_
              refine Fin.thenRet ?_
              refine Fin.ret1 rfl (by conv => lhs; whnf) ?_
              exact ⟨_, rfl, bF (hno _ (by omega) (fun h => hg1 ▸ hg ▸ (h k hltk).2.2 (by omega))), rfl⟩
            · with_reducible first | (replace hb4 := deNF hb4) | (replace hb4 := of_decide_eq_true hb4) | (replace hb4 := of_decide_eq_false hb4) | (replace hb4 := deNT hb4) | (replace hb4 := deNN hb4) | (replace hb4 := bnT hb4) | (replace hb4 := bnF hb4) | skip
              refine CW.skip ?_
              refine Fin.blockNormal ?_
              refine Fin.next ?_
              refine CW.region ?_
              refine RL.y rfl (y_add rfl rfl (IntWalk.i64_in _ (by omega))) ?_
              refine RL.y rfl (y_mov (v := .int _ _) rfl) ?_
              refine RL.nil ?_
              refine Fin.le ?_
              exact ⟨xs.length - (k + 1), by omega, k + 1, rfl, hltk, ⟨rfl, rfl, rfl, rfl, rfl, trivial⟩, risesTo_succ hr (by omega) (by omega) (fun _ => by omega), rfl⟩
          · with_reducible first | (replace hb3 := deNF hb3) | (replace hb3 := of_decide_eq_true hb3) | (replace hb3 := of_decide_eq_false hb3) | (replace hb3 := deNT hb3) | (replace hb3 := deNN hb3) | (replace hb3 := bnT hb3) | (replace hb3 := bnF hb3) | skip
            refine RL.pass (t := 24) rfl rfl rfl rfl ?_
            refine RL.pass (t := 24) rfl rfl rfl rfl ?_
            refine RL.pass (t := 24) rfl rfl rfl rfl ?_
            refine RL.pass (t := 24) rfl rfl rfl rfl ?_
            refine RL.pass (t := 24) rfl rfl rfl rfl ?_
            refine RL.pass (t := 24) rfl rfl rfl rfl ?_
            refine RL.pass (t := 24) rfl rfl rfl rfl ?_
            refine RL.take (t := 21) rfl rfl rfl ?_
            refine RL.y rfl (y_pickF (v := .bool _) rfl rfl) ?_
            refine RL.y rfl (y_pickF (v := .bool _) rfl rfl) ?_
            refine RL.nil ?_
            refine Fin.next ?_
            refine CW.condF rfl rfl ?_
            refine CW.skip ?_
            refine Fin.blockNormal ?_
            refine Fin.next ?_
            refine CW.region ?_
            refine RL.y rfl (y_add rfl rfl (IntWalk.i64_in _ (by omega))) ?_
            refine RL.y rfl (y_mov (v := .int _ _) rfl) ?_
            refine RL.nil ?_
            refine Fin.le ?_
            exact ⟨xs.length - (k + 1), by omega, k + 1, rfl, hltk, ⟨rfl, rfl, rfl, rfl, rfl, trivial⟩, risesTo_succ hr (by omega) (by omega) (fun h => absurd h (by omega)), rfl⟩
    · with_reducible first | (replace hck := deNF hck) | (replace hck := of_decide_eq_true hck) | (replace hck := of_decide_eq_false hck) | (replace hck := deNT hck) | (replace hck := deNN hck) | (replace hck := bnT hck) | (replace hck := bnF hck) | skip
      obtain rfl : xs.length = k := by omega
      refine CW.exit ?_
      refine Fin.thenExit ?_
      refine Fin.thenExit ?_
      refine Fin.blockHit ?_
      refine Fin.next ?_
      refine CW.seq ?_
      refine CW.region ?_
      refine RL.y rfl (y_asg rfl) ?_
      refine RL.nil ?_
      refine Fin.next ?_
      refine CW.ret ?_
      refine Fin.ret1 rfl (by conv => lhs; whnf) ?_
      exact ⟨_, rfl, bT hr, rfl⟩


theorem likeInts_any {w : World} {v u : Value} {xs ys : List Int} (hv : SI w v xs) (hu : SI w u ys) :
    Does Try.prog 46 #[v, u] w (fun r w' => r = .bool (decide (xs = ys)) ∧ Ext w w') := by
  have hxl := SI.le hv
  refine enter Try.func46 rfl 26 Try.ntmps46 rfl (by kernel_rfl) ?_
  refine CW.seq ?_
  refine CW.region ?_
  refine RL.y rfl (y_asg rfl) ?_
  refine RL.nil ?_
  refine Fin.next ?_
  refine CW.seq ?_
  refine CW.seq ?_
  refine CW.region ?_
  refine RL.y rfl (y_mov (by conv => lhs; whnf)) ?_
  refine RL.y rfl (y_len sT29 hv (ints_len _) rfl) ?_
  refine RL.y rfl (y_mov (by conv => lhs; whnf)) ?_
  refine RL.y rfl (y_len sT29 hu (ints_len _) rfl) ?_
  refine RL.y rfl (y_ne rfl rfl) ?_
  refine RL.nil ?_
  refine Fin.next ?_
  refine CW.cond rfl rfl (fun hc => ?_) (fun hc => ?_)
  · with_reducible first | (replace hc := deNF hc) | (replace hc := of_decide_eq_true hc) | (replace hc := of_decide_eq_false hc) | (replace hc := deNT hc) | (replace hc := deNN hc) | (replace hc := bnT hc) | (replace hc := bnF hc) | skip
    refine CW.seq ?_
    refine CW.region ?_
    refine RL.y rfl (y_asg rfl) ?_
    refine RL.nil ?_
    refine Fin.next ?_
    refine CW.ret ?_
    refine Fin.thenRet ?_
    refine Fin.ret1 rfl (by conv => lhs; whnf) ?_
    exact ⟨_, rfl, congrArg Value.bool (Eq.symm (decide_eq_false (fun e => by subst e; exact hc rfl))), Ext.refl w⟩
  · with_reducible first | (replace hc := deNF hc) | (replace hc := of_decide_eq_true hc) | (replace hc := of_decide_eq_false hc) | (replace hc := deNT hc) | (replace hc := deNN hc) | (replace hc := bnT hc) | (replace hc := bnF hc) | skip
    have hl : xs.length = ys.length := by omega
    refine CW.skip ?_
    refine Fin.next ?_
    refine CW.seq ?_
    refine CW.seq ?_
    refine CW.region ?_
    refine RL.y rfl (y_asg rfl) ?_
    refine RL.nil ?_
    refine Fin.next ?_
    refine CW.block ?_
    refine CW.loop (fun m E w' => ∃ k : Nat, m = xs.length - k ∧ k ≤ xs.length ∧ agrees E [(0, v), (1, u), (5, .int .i64 (k : Int))] ∧ xs.take k = ys.take k ∧ Ext w w') _ (⟨0, rfl, Nat.zero_le _, ⟨rfl, rfl, rfl, trivial⟩, rfl, Ext.refl w⟩) ?_
    · rintro m E w2 ⟨k, rfl, hk, hag, htk, hE2⟩
      refine CW.re _ hag rfl ?_
      refine CW.seq ?_
      refine CW.seq ?_
      refine CW.region ?_
      refine RL.y rfl (y_mov (v := .int _ _) rfl) ?_
      refine RL.y rfl (y_mov (by conv => lhs; whnf)) ?_
      refine RL.y rfl (y_len sT29 hv (ints_len _) rfl) ?_
      refine RL.y rfl (y_lt rfl rfl) ?_
      refine RL.nil ?_
      refine Fin.next ?_
      refine CW.cond rfl rfl (fun hc2 => ?_) (fun hc2 => ?_)
      · with_reducible first | (replace hc2 := deNF hc2) | (replace hc2 := of_decide_eq_true hc2) | (replace hc2 := of_decide_eq_false hc2) | (replace hc2 := deNT hc2) | (replace hc2 := deNN hc2) | (replace hc2 := bnT hc2) | (replace hc2 := bnF hc2) | skip
        have hlt : k < xs.length := by omega
        have hlt' : k < ys.length := by omega
        refine CW.skip ?_
        refine Fin.next ?_
        refine CW.seq ?_
        refine CW.block ?_
        refine CW.seq ?_
        refine CW.quietE mixed (by kernel_rfl) ?_
        refine QL.y rfl (y_mov (by conv => lhs; whnf)) ?_
        refine QL.y rfl (y_mov (v := .int _ _) rfl) ?_
        refine QL.y rfl (y_ixa sT29 (fun _ hC => (hv.ext hE2).ext hC) (k := k) (ints_lt hlt) rfl rfl) ?_
        refine QL.y rfl (y_load sc2 (fun _ hC => (hv.ext hE2).ext hC) (ints_at hlt) rfl) ?_
        refine QL.y rfl (y_mov (by conv => lhs; whnf)) ?_
        refine QL.y rfl (y_mov (v := .int _ _) rfl) ?_
        refine QL.y rfl (y_ixa sT29 (fun _ hC => (hu.ext hE2).ext hC) (k := k) (ints_lt hlt') rfl rfl) ?_
        refine QL.y rfl (y_load sc2 (fun _ hC => (hu.ext hE2).ext hC) (ints_at hlt') rfl) ?_
        refine QL.y rfl (y_ne rfl rfl) ?_
        refine QL.nil (fun w3 hE3 => ?_)
        refine Fin.next ?_
        refine CW.cond rfl rfl (fun hc3 => ?_) (fun hc3 => ?_)
        · with_reducible first | (replace hc3 := deNF hc3) | (replace hc3 := of_decide_eq_true hc3) | (replace hc3 := of_decide_eq_false hc3) | (replace hc3 := deNT hc3) | (replace hc3 := deNN hc3) | (replace hc3 := bnT hc3) | (replace hc3 := bnF hc3) | skip
          refine CW.seq ?_
          refine CW.region ?_
          refine RL.y rfl (y_asg rfl) ?_
          refine RL.nil ?_
          refine Fin.next ?_
          refine CW.ret ?_
          refine Fin.blockRet ?_
          refine Fin.thenRet ?_
          refine Fin.thenRet ?_
          refine Fin.blockRet ?_
          refine Fin.thenRet ?_
          refine Fin.ret1 rfl (by conv => lhs; whnf) ?_
          exact ⟨_, rfl, congrArg Value.bool (Eq.symm (decide_eq_false (fun e => by subst e; exact hc3 rfl))), hE2.trans hE3⟩
        · with_reducible first | (replace hc3 := deNF hc3) | (replace hc3 := of_decide_eq_true hc3) | (replace hc3 := of_decide_eq_false hc3) | (replace hc3 := deNT hc3) | (replace hc3 := deNN hc3) | (replace hc3 := bnT hc3) | (replace hc3 := bnF hc3) | skip
          have he : xs[k] = ys[k] := hc3
          refine CW.skip ?_
          refine Fin.blockNormal ?_
          refine Fin.next ?_
          refine CW.region ?_
          refine RL.y rfl (y_mov (v := .int _ _) rfl) ?_
          refine RL.y rfl (y_add rfl rfl (IntWalk.i64_in _ (by omega))) ?_
          refine RL.y rfl (y_asg (v := .int _ _) rfl) ?_
          refine RL.nil ?_
          refine Fin.le ?_
          exact ⟨xs.length - (k + 1), by omega, k + 1, rfl, hlt, ⟨rfl, rfl, rfl, trivial⟩, by rw [List.take_succ_eq_append_getElem hlt, List.take_succ_eq_append_getElem hlt', htk, he], hE2.trans hE3⟩
      · with_reducible first | (replace hc2 := deNF hc2) | (replace hc2 := of_decide_eq_true hc2) | (replace hc2 := of_decide_eq_false hc2) | (replace hc2 := deNT hc2) | (replace hc2 := deNN hc2) | (replace hc2 := bnT hc2) | (replace hc2 := bnF hc2) | skip
        obtain rfl : k = xs.length := by omega
        refine CW.exit ?_
        refine Fin.thenExit ?_
        refine Fin.thenExit ?_
        refine Fin.blockHit ?_
        refine Fin.next ?_
        refine CW.seq ?_
        refine CW.region ?_
        refine RL.y rfl (y_asg rfl) ?_
        refine RL.nil ?_
        refine Fin.next ?_
        refine CW.ret ?_
        refine Fin.ret1 rfl (by conv => lhs; whnf) ?_
        exact ⟨_, rfl, congrArg Value.bool (Eq.symm (decide_eq_true (by rw [List.take_length] at htk; rw [htk, hl, List.take_length]))), hE2⟩
end Go.Proofs.Ytaepdknmagaokaa
