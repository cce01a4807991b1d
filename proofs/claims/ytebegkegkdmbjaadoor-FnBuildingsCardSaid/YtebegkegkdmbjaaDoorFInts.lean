/-
  The helpers of the laws on slices of int64: toInt64S, eqInt64S, markInt64S, heldInt64S.
-/
import Derived.Test.YtebegkegkdmbjaaDoorSig
import Derived.Test.YtebegkegkdmbjaaDoorOwn
namespace Go.Proofs.YtebegkegkdmbjaaDoor
open B Go.RowKit

theorem toInt64S_any {w : World} {v : Value} {xs : List Int} (hv : SI w v xs) (hlen : xs.length ≤ 1099511627776) :
    Does Tryd.prog 45 #[v] w (fun v' w' => OV w' w.heap.size 2 v' (ints xs) ∧ Ext w w' ∧ v'.ownBlock = some w.heap.size) := by
  refine enter Tryd.func45 rfl 22 Tryd.ntmps45 rfl (by kernel_rfl) ?_
  refine CW.seq ?_
  refine CW.region ?_
  refine RL.y rfl (y_asg rfl) ?_
  refine RL.nil ?_
  refine Fin.next ?_
  refine CW.seq ?_
  refine CW.region ?_
  refine RL.y rfl (y_mov (by conv => lhs; whnf)) ?_
  refine RL.y rfl (y_len sT22 hv (ints_len _) rfl) ?_
  refine RL.make rfl sT22 (m := xs.length) (by omega) (by omega) rfl (fun vo w1 ho1 hE1 hb1 => ?_)
  refine RL.y rfl (y_asg (by conv => lhs; whnf)) ?_
  refine RL.nil ?_
  refine Fin.next ?_
  refine CW.seq ?_
  refine CW.seq ?_
  refine CW.region ?_
  refine RL.y rfl (y_asg rfl) ?_
  refine RL.nil ?_
  refine Fin.next ?_
  refine CW.block ?_
  refine CW.loop (fun m E w' => ∃ k : Nat, m = xs.length - k ∧ k ≤ xs.length ∧ agrees E [(0, v), (3, vo), (4, .int .i64 (k : Int))] ∧ OV w' w.heap.size 2 vo (ints (xs.take k ++ List.replicate (xs.length - k) 0)) ∧ Ext w w') _ (⟨0, rfl, Nat.zero_le _, ⟨rfl, rfl, rfl, trivial⟩, by rw [List.take_zero, List.nil_append, ← ints_rep]; exact ho1, hE1⟩) ?_
  · rintro m E w2 ⟨k, rfl, hk, hag, ho2, hE2⟩
    refine CW.re _ hag rfl ?_
    refine CW.seq ?_
    refine CW.seq ?_
    refine CW.region ?_
    refine RL.y rfl (y_mov (v := .int _ _) rfl) ?_
    refine RL.y rfl (y_mov (by conv => lhs; whnf)) ?_
    refine RL.y rfl (y_len sT22 hv (ints_len _) rfl) ?_
    refine RL.y rfl (y_lt rfl rfl) ?_
    refine RL.nil ?_
    refine Fin.next ?_
    refine CW.cond rfl rfl (fun hc => ?_) (fun hc => ?_)
    · with_reducible first | (replace hc := deNF hc) | (replace hc := of_decide_eq_true hc) | (replace hc := of_decide_eq_false hc) | (replace hc := deNT hc) | (replace hc := deNN hc) | (replace hc := bnT hc) | (replace hc := bnF hc) | skip
      have hlt : k < xs.length := by omega
      refine CW.skip ?_
      refine Fin.next ?_
      refine CW.seq ?_
      refine CW.block ?_
      refine CW.region ?_
      refine RL.y rfl (y_mov (by conv => lhs; whnf)) ?_
      refine RL.y rfl (y_mov (v := .int _ _) rfl) ?_
      refine RL.y rfl (y_mov (by conv => lhs; whnf)) ?_
      refine RL.y rfl (y_mov (v := .int _ _) rfl) ?_
      refine RL.y rfl (y_ixa sT22 (eqw (hv.ext hE2)) (k := k) (ints_lt hlt) rfl rfl) ?_
      refine RL.y rfl (y_load sc2 (eqw (hv.ext hE2)) (ints_at hlt) rfl) ?_
      refine RL.y rfl (y_ixa sT22 (eqw (ho2.sv)) (k := k) (by simp [ints]; omega) rfl rfl) ?_
      refine RL.store sT22 ho2 (k := k) (x := .int .i64 xs[k]) (by simp [ints]; omega) rfl rfl rfl (fun w3 ho3 hg3 => ?_)
      refine RL.nil ?_
      refine Fin.blockNormal ?_
      refine Fin.next ?_
      refine CW.region ?_
      refine RL.y rfl (y_mov (v := .int _ _) rfl) ?_
      refine RL.y rfl (y_add rfl rfl (IntWalk.i64_in _ (by omega))) ?_
      refine RL.y rfl (y_asg (v := .int _ _) rfl) ?_
      refine RL.nil ?_
      refine Fin.le ?_
      exact ⟨xs.length - (k + 1), by omega, k + 1, rfl, hlt, ⟨rfl, rfl, rfl, trivial⟩, by rw [ints_set, fill_step hlt] at ho3; exact ho3, hE2.grown hg3 (fun b hb => (ho2.lt b hb).1)⟩
    · with_reducible first | (replace hc := deNF hc) | (replace hc := of_decide_eq_true hc) | (replace hc := of_decide_eq_false hc) | (replace hc := deNT hc) | (replace hc := deNN hc) | (replace hc := bnT hc) | (replace hc := bnF hc) | skip
      obtain rfl : k = xs.length := by omega
      refine CW.exit ?_
      refine Fin.thenExit ?_
      refine Fin.thenExit ?_
      refine Fin.blockHit ?_
      refine Fin.next ?_
      refine CW.seq ?_
      refine CW.region ?_
      refine RL.y rfl (y_mov (by conv => lhs; whnf)) ?_
      refine RL.y rfl (y_asg (by conv => lhs; whnf)) ?_
      refine RL.nil ?_
      refine Fin.next ?_
      refine CW.ret ?_
      refine Fin.ret1 rfl (by conv => lhs; whnf) ?_
      exact ⟨_, rfl, by simpa using ho2, hE2, hb1⟩

theorem eqInt64S_any {w : World} {v u : Value} {xs ys : List Int} (hv : SI w v xs) (hu : SI w u ys) :
    Does Tryd.prog 26 #[v, u] w (fun r w' => r = .bool (decide (xs = ys)) ∧ Ext w w') := by
  have hxl := SI.le hv
  refine enter Tryd.func26 rfl 26 Tryd.ntmps26 rfl (by kernel_rfl) ?_
  refine CW.seq ?_
  refine CW.region ?_
  refine RL.y rfl (y_asg rfl) ?_
  refine RL.nil ?_
  refine Fin.next ?_
  refine CW.seq ?_
  refine CW.seq ?_
  refine CW.region ?_
  refine RL.y rfl (y_mov (by conv => lhs; whnf)) ?_
  refine RL.y rfl (y_len sT22 hv (ints_len _) rfl) ?_
  refine RL.y rfl (y_mov (by conv => lhs; whnf)) ?_
  refine RL.y rfl (y_len sT22 hu (ints_len _) rfl) ?_
  refine RL.y rfl (y_ne rfl rfl) ?_
  refine RL.nil ?_
  refine Fin.next ?_
  refine CW.cond rfl rfl (fun hc => ?_) (fun hc => ?_)
  · with_reducible first | (replace hc := deNF hc) | (replace hc := of_decide_eq_true hc) | (replace hc := of_decide_eq_false hc) | (replace hc := deNT hc) | (replace hc := deNN hc) | (replace hc := bnT hc) | (replace hc := bnF hc) | skip
    refine CW.seq ?_
    refine CW.region ?_
    refine RL.y rfl (y_asg rfl) ?_
    refine RL.nil ?_
    refine Fin.next ?_
    refine CW.ret ?_
    refine Fin.thenRet ?_
    refine Fin.ret1 rfl (by conv => lhs; whnf) ?_
    exact ⟨_, rfl, congrArg Value.bool (Eq.symm (decide_eq_false (fun e => by subst e; exact hc rfl))), Ext.refl w⟩
  · with_reducible first | (replace hc := deNF hc) | (replace hc := of_decide_eq_true hc) | (replace hc := of_decide_eq_false hc) | (replace hc := deNT hc) | (replace hc := deNN hc) | (replace hc := bnT hc) | (replace hc := bnF hc) | skip
    have hl : xs.length = ys.length := by omega
    refine CW.skip ?_
    refine Fin.next ?_
    refine CW.seq ?_
    refine CW.seq ?_
    refine CW.region ?_
    refine RL.y rfl (y_asg rfl) ?_
    refine RL.nil ?_
    refine Fin.next ?_
    refine CW.block ?_
    refine CW.loop (fun m E w' => ∃ k : Nat, m = xs.length - k ∧ k ≤ xs.length ∧ agrees E [(0, v), (1, u), (5, .int .i64 (k : Int))] ∧ xs.take k = ys.take k ∧ Ext w w') _ (⟨0, rfl, Nat.zero_le _, ⟨rfl, rfl, rfl, trivial⟩, rfl, Ext.refl w⟩) ?_
    · rintro m E w2 ⟨k, rfl, hk, hag, htk, hE2⟩
      refine CW.re _ hag rfl ?_
      refine CW.seq ?_
      refine CW.seq ?_
      refine CW.region ?_
      refine RL.y rfl (y_mov (v := .int _ _) rfl) ?_
      refine RL.y rfl (y_mov (by conv => lhs; whnf)) ?_
      refine RL.y rfl (y_len sT22 hv (ints_len _) rfl) ?_
      refine RL.y rfl (y_lt rfl rfl) ?_
      refine RL.nil ?_
      refine Fin.next ?_
      refine CW.cond rfl rfl (fun hc2 => ?_) (fun hc2 => ?_)
      · with_reducible first | (replace hc2 := deNF hc2) | (replace hc2 := of_decide_eq_true hc2) | (replace hc2 := of_decide_eq_false hc2) | (replace hc2 := deNT hc2) | (replace hc2 := deNN hc2) | (replace hc2 := bnT hc2) | (replace hc2 := bnF hc2) | skip
        have hlt : k < xs.length := by omega
        have hlt' : k < ys.length := by omega
        refine CW.skip ?_
        refine Fin.next ?_
        refine CW.seq ?_
        refine CW.block ?_
        refine CW.seq ?_
        refine CW.quietE mixed (by kernel_rfl) ?_
        refine QL.y rfl (y_mov (by conv => lhs; whnf)) ?_
        refine QL.y rfl (y_mov (v := .int _ _) rfl) ?_
        refine QL.y rfl (y_ixa sT22 (fun _ hC => (hv.ext hE2).ext hC) (k := k) (ints_lt hlt) rfl rfl) ?_
        refine QL.y rfl (y_load sc2 (fun _ hC => (hv.ext hE2).ext hC) (ints_at hlt) rfl) ?_
        refine QL.y rfl (y_mov (by conv => lhs; whnf)) ?_
        refine QL.y rfl (y_mov (v := .int _ _) rfl) ?_
        refine QL.y rfl (y_ixa sT22 (fun _ hC => (hu.ext hE2).ext hC) (k := k) (ints_lt hlt') rfl rfl) ?_
        refine QL.y rfl (y_load sc2 (fun _ hC => (hu.ext hE2).ext hC) (ints_at hlt') rfl) ?_
        refine QL.y rfl (y_ne rfl rfl) ?_
        refine QL.nil (fun w3 hE3 => ?_)
        refine Fin.next ?_
        refine CW.cond rfl rfl (fun hc3 => ?_) (fun hc3 => ?_)
        · with_reducible first | (replace hc3 := deNF hc3) | (replace hc3 := of_decide_eq_true hc3) | (replace hc3 := of_decide_eq_false hc3) | (replace hc3 := deNT hc3) | (replace hc3 := deNN hc3) | (replace hc3 := bnT hc3) | (replace hc3 := bnF hc3) | skip
          refine CW.seq ?_
          refine CW.region ?_
          refine RL.y rfl (y_asg rfl) ?_
          refine RL.nil ?_
          refine Fin.next ?_
          refine CW.ret ?_
          refine Fin.blockRet ?_
          refine Fin.thenRet ?_
          refine Fin.thenRet ?_
          refine Fin.blockRet ?_
          refine Fin.thenRet ?_
          refine Fin.ret1 rfl (by conv => lhs; whnf) ?_
          exact ⟨_, rfl, congrArg Value.bool (Eq.symm (decide_eq_false (fun e => by subst e; exact hc3 rfl))), hE2.trans hE3⟩
        · with_reducible first | (replace hc3 := deNF hc3) | (replace hc3 := of_decide_eq_true hc3) | (replace hc3 := of_decide_eq_false hc3) | (replace hc3 := deNT hc3) | (replace hc3 := deNN hc3) | (replace hc3 := bnT hc3) | (replace hc3 := bnF hc3) | skip
          have he : xs[k] = ys[k] := hc3
          refine CW.skip ?_
          refine Fin.blockNormal ?_
          refine Fin.next ?_
          refine CW.region ?_
          refine RL.y rfl (y_mov (v := .int _ _) rfl) ?_
          refine RL.y rfl (y_add rfl rfl (IntWalk.i64_in _ (by omega))) ?_
          refine RL.y rfl (y_asg (v := .int _ _) rfl) ?_
          refine RL.nil ?_
          refine Fin.le ?_
          exact ⟨xs.length - (k + 1), by omega, k + 1, rfl, hlt, ⟨rfl, rfl, rfl, trivial⟩, by rw [List.take_succ_eq_append_getElem hlt, List.take_succ_eq_append_getElem hlt', htk, he], hE2.trans hE3⟩
      · with_reducible first | (replace hc2 := deNF hc2) | (replace hc2 := of_decide_eq_true hc2) | (replace hc2 := of_decide_eq_false hc2) | (replace hc2 := deNT hc2) | (replace hc2 := deNN hc2) | (replace hc2 := bnT hc2) | (replace hc2 := bnF hc2) | skip
        obtain rfl : k = xs.length := by omega
        refine CW.exit ?_
        refine Fin.thenExit ?_
        refine Fin.thenExit ?_
        refine Fin.blockHit ?_
        refine Fin.next ?_
        refine CW.seq ?_
        refine CW.region ?_
        refine RL.y rfl (y_asg rfl) ?_
        refine RL.nil ?_
        refine Fin.next ?_
        refine CW.ret ?_
        refine Fin.ret1 rfl (by conv => lhs; whnf) ?_
        exact ⟨_, rfl, congrArg Value.bool (Eq.symm (decide_eq_true (by rw [List.take_length] at htk; rw [htk, hl, List.take_length]))), hE2⟩

theorem markInt64S_any {w : World} {B : Nat} {v : Value} {xs : List Int} {k0 : Int} (hv : OV w B 2 v (ints xs)) (h0 : 0 ≤ k0) (hb : k0 + xs.length ≤ 4611686018427387904) :
    Does Tryd.prog 28 #[v, .int .i64 k0] w (fun r w' => r = .int .i64 (k0 + xs.length) ∧ OV w' B 2 v (ints (marks xs.length k0)) ∧ w.grownBy w' v.ownBlock) := by
  refine enter Tryd.func28 rfl 19 Tryd.ntmps28 rfl (by kernel_rfl) ?_
  refine CW.seq ?_
  refine CW.region ?_
  refine RL.y rfl (y_asg rfl) ?_
  refine RL.nil ?_
  refine Fin.next ?_
  refine CW.seq ?_
  refine CW.seq ?_
  refine CW.region ?_
  refine RL.y rfl (y_asg rfl) ?_
  refine RL.nil ?_
  refine Fin.next ?_
  refine CW.block ?_
  refine CW.loop (fun m E w' => ∃ k : Nat, m = xs.length - k ∧ k ≤ xs.length ∧ agrees E [(0, v), (1, .int .i64 (k0 + k)), (5, .int .i64 (k : Int))] ∧ OV w' B 2 v (ints (marks k k0 ++ xs.drop k)) ∧ w.grownBy w' v.ownBlock) _ (⟨0, rfl, Nat.zero_le _, ⟨rfl, by rw [show (k0 + ((0 : Nat) : Int)) = k0 from by omega]; rfl, rfl, trivial⟩, by simpa [marks] using hv, World.grownBy.refl _ _⟩) ?_
  · rintro m E w2 ⟨k, rfl, hk, hag, ho2, hg2⟩
    refine CW.re _ hag rfl ?_
    refine CW.seq ?_
    refine CW.seq ?_
    refine CW.region ?_
    refine RL.y rfl (y_mov (v := .int _ _) rfl) ?_
    refine RL.y rfl (y_mov (by conv => lhs; whnf)) ?_
    refine RL.y rfl (y_len sT22 ho2.sv (m := xs.length) (by simp [ints, marks]; omega) rfl) ?_
    refine RL.y rfl (y_lt rfl rfl) ?_
    refine RL.nil ?_
    refine Fin.next ?_
    refine CW.cond rfl rfl (fun hc => ?_) (fun hc => ?_)
    · with_reducible first | (replace hc := deNF hc) | (replace hc := of_decide_eq_true hc) | (replace hc := of_decide_eq_false hc) | (replace hc := deNT hc) | (replace hc := deNN hc) | (replace hc := bnT hc) | (replace hc := bnF hc) | skip
      have hlt : k < xs.length := by omega
      refine CW.skip ?_
      refine Fin.next ?_
      refine CW.seq ?_
      refine CW.block ?_
      refine CW.seq ?_
      refine CW.region ?_
      refine RL.y rfl (y_mov (by conv => lhs; whnf)) ?_
      refine RL.y rfl (y_mov (v := .int _ _) rfl) ?_
      refine RL.y rfl (y_mov (v := .int _ _) rfl) ?_
      refine RL.y rfl (y_ixa sT22 (eqw (ho2.sv)) (k := k) (by simp [ints, marks]; omega) rfl rfl) ?_
      refine RL.store sT22 ho2 (k := k) (x := .int .i64 (k0 + k)) (by simp [ints, marks]; omega) rfl rfl rfl (fun w3 ho3 hg3 => ?_)
      refine RL.nil ?_
      refine Fin.next ?_
      refine CW.region ?_
      refine RL.y rfl (y_mov (v := .int _ _) rfl) ?_
      refine RL.y rfl (y_add rfl rfl (IntWalk.i64_in _ (by omega))) ?_
      refine RL.y rfl (y_asg (v := .int _ _) rfl) ?_
      refine RL.nil ?_
      refine Fin.blockNormal ?_
      refine Fin.next ?_
      refine CW.region ?_
      refine RL.y rfl (y_mov (v := .int _ _) rfl) ?_
      refine RL.y rfl (y_add rfl rfl (IntWalk.i64_in _ (by omega))) ?_
      refine RL.y rfl (y_asg (v := .int _ _) rfl) ?_
      refine RL.nil ?_
      refine Fin.le ?_
      exact ⟨xs.length - (k + 1), by omega, k + 1, rfl, hlt, ⟨rfl, by rw [show (k0 + ((k + 1 : Nat) : Int)) = k0 + k + 1 from by omega]; rfl, rfl, trivial⟩, by rw [ints_set, marks_step hlt] at ho3; exact ho3, grown_trans hg2 hg3⟩
    · with_reducible first | (replace hc := deNF hc) | (replace hc := of_decide_eq_true hc) | (replace hc := of_decide_eq_false hc) | (replace hc := deNT hc) | (replace hc := deNN hc) | (replace hc := bnT hc) | (replace hc := bnF hc) | skip
      obtain rfl : k = xs.length := by omega
      refine CW.exit ?_
      refine Fin.thenExit ?_
      refine Fin.thenExit ?_
      refine Fin.blockHit ?_
      refine Fin.next ?_
      refine CW.seq ?_
      refine CW.region ?_
      refine RL.y rfl (y_mov (v := .int _ _) rfl) ?_
      refine RL.y rfl (y_asg (v := .int _ _) rfl) ?_
      refine RL.nil ?_
      refine Fin.next ?_
      refine CW.ret ?_
      refine Fin.ret1 rfl (by conv => lhs; whnf) ?_
      exact ⟨_, rfl, rfl, by simpa using ho2, hg2⟩
theorem heldInt64S_any {w : World} {v : Value} {xs : List Int} {k0 : Int} (hv : SI w v xs) (h0 : 0 ≤ k0) (hb : k0 + xs.length ≤ 4611686018427387904) :
    Does Tryd.prog 30 #[v, .int .i64 k0] w (fun r w' => r = .int .i64 (heldI xs k0) ∧ Ext w w') := by
  refine enter Tryd.func30 rfl 21 Tryd.ntmps30 rfl (by kernel_rfl) ?_
  refine CW.seq ?_
  refine CW.region ?_
  refine RL.y rfl (y_asg rfl) ?_
  refine RL.nil ?_
  refine Fin.next ?_
  refine CW.seq ?_
  refine CW.seq ?_
  refine CW.region ?_
  refine RL.y rfl (y_asg rfl) ?_
  refine RL.nil ?_
  refine Fin.next ?_
  refine CW.block ?_
  refine CW.loop (fun m E w' => ∃ k : Nat, m = xs.length - k ∧ k ≤ xs.length ∧ agrees E [(0, v), (1, .int .i64 (k0 + k)), (5, .int .i64 (k : Int))] ∧ xs.take k = marks k k0 ∧ Ext w w') _ (⟨0, rfl, Nat.zero_le _, ⟨rfl, by rw [show (k0 + ((0 : Nat) : Int)) = k0 from by omega]; rfl, rfl, trivial⟩, rfl, Ext.refl w⟩) ?_
  · rintro m E w2 ⟨k, rfl, hk, hag, htk, hE2⟩
    refine CW.re _ hag rfl ?_
    refine CW.seq ?_
    refine CW.seq ?_
    refine CW.region ?_
    refine RL.y rfl (y_mov (v := .int _ _) rfl) ?_
    refine RL.y rfl (y_mov (by conv => lhs; whnf)) ?_
    refine RL.y rfl (y_len sT22 hv (ints_len _) rfl) ?_
    refine RL.y rfl (y_lt rfl rfl) ?_
    refine RL.nil ?_
    refine Fin.next ?_
    refine CW.cond rfl rfl (fun hc => ?_) (fun hc => ?_)
    · with_reducible first | (replace hc := deNF hc) | (replace hc := of_decide_eq_true hc) | (replace hc := of_decide_eq_false hc) | (replace hc := deNT hc) | (replace hc := deNN hc) | (replace hc := bnT hc) | (replace hc := bnF hc) | skip
      have hlt : k < xs.length := by omega
      refine CW.skip ?_
      refine Fin.next ?_
      refine CW.seq ?_
      refine CW.block ?_
      refine CW.seq ?_
      refine CW.seq ?_
      refine CW.region ?_
      refine RL.y rfl (y_mov (by conv => lhs; whnf)) ?_
      refine RL.y rfl (y_mov (v := .int _ _) rfl) ?_
      refine RL.y rfl (y_ixa sT22 (eqw (hv.ext hE2)) (k := k) (ints_lt hlt) rfl rfl) ?_
      refine RL.y rfl (y_load sc2 (eqw (hv.ext hE2)) (ints_at hlt) rfl) ?_
      refine RL.y rfl (y_mov (v := .int _ _) rfl) ?_
      refine RL.y rfl (y_ne rfl rfl) ?_
      refine RL.nil ?_
      refine Fin.next ?_
      refine CW.cond rfl rfl (fun hc2 => ?_) (fun hc2 => ?_)
      · with_reducible first | (replace hc2 := deNF hc2) | (replace hc2 := of_decide_eq_true hc2) | (replace hc2 := of_decide_eq_false hc2) | (replace hc2 := deNT hc2) | (replace hc2 := deNN hc2) | (replace hc2 := bnT hc2) | (replace hc2 := bnF hc2) | skip
        refine CW.seq ?_
        refine CW.region ?_
        refine RL.y rfl (y_asg rfl) ?_
        refine RL.nil ?_
        refine Fin.next ?_
        refine CW.ret ?_
        refine Fin.thenRet ?_
        refine Fin.blockRet ?_
        refine Fin.thenRet ?_
        refine Fin.thenRet ?_
        refine Fin.blockRet ?_
        refine Fin.thenRet ?_
        refine Fin.ret1 rfl (by conv => lhs; whnf) ?_
        exact ⟨_, rfl, by unfold heldI; rw [if_neg (fun e => hc2 (marks_get e hlt))], hE2⟩
      · with_reducible first | (replace hc2 := deNF hc2) | (replace hc2 := of_decide_eq_true hc2) | (replace hc2 := of_decide_eq_false hc2) | (replace hc2 := deNT hc2) | (replace hc2 := deNN hc2) | (replace hc2 := bnT hc2) | (replace hc2 := bnF hc2) | skip
        refine CW.skip ?_
        refine Fin.next ?_
        refine CW.region ?_
        refine RL.y rfl (y_mov (v := .int _ _) rfl) ?_
        refine RL.y rfl (y_add rfl rfl (IntWalk.i64_in _ (by omega))) ?_
        refine RL.y rfl (y_asg (v := .int _ _) rfl) ?_
        refine RL.nil ?_
        refine Fin.blockNormal ?_
        refine Fin.next ?_
        refine CW.region ?_
        refine RL.y rfl (y_mov (v := .int _ _) rfl) ?_
        refine RL.y rfl (y_add rfl rfl (IntWalk.i64_in _ (by omega))) ?_
        refine RL.y rfl (y_asg (v := .int _ _) rfl) ?_
        refine RL.nil ?_
        refine Fin.le ?_
        exact ⟨xs.length - (k + 1), by omega, k + 1, rfl, hlt, ⟨rfl, by rw [show (k0 + ((k + 1 : Nat) : Int)) = k0 + k + 1 from by omega]; rfl, rfl, trivial⟩, by rw [List.take_succ_eq_append_getElem hlt, marks_succ, htk, hc2], hE2⟩
    · with_reducible first | (replace hc := deNF hc) | (replace hc := of_decide_eq_true hc) | (replace hc := of_decide_eq_false hc) | (replace hc := deNT hc) | (replace hc := deNN hc) | (replace hc := bnT hc) | (replace hc := bnF hc) | skip
      obtain rfl : k = xs.length := by omega
      refine CW.exit ?_
      refine Fin.thenExit ?_
      refine Fin.thenExit ?_
      refine Fin.blockHit ?_
      refine Fin.next ?_
      refine CW.seq ?_
      refine CW.region ?_
      refine RL.y rfl (y_mov (v := .int _ _) rfl) ?_
      refine RL.y rfl (y_asg (v := .int _ _) rfl) ?_
      refine RL.nil ?_
      refine Fin.next ?_
      refine CW.ret ?_
      refine Fin.ret1 rfl (by conv => lhs; whnf) ?_
      exact ⟨_, rfl, by unfold heldI; rw [if_pos (by rwa [List.take_length] at htk)], hE2⟩
/-- 'mark' on data that a call has made. -/
theorem markI_own {w : World} {B U : Nat} {v : Value} {xs : List Int} {k0 : Int} (hv : OU w B U 2 v (ints xs)) (h0 : 0 ≤ k0) (hb : k0 + xs.length ≤ 4611686018427387904) :
    Does Tryd.prog 28 #[v, .int .i64 k0] w (fun r w' => ∃ xs' k', r = .int .i64 k' ∧ OU w' B U 2 v (ints xs') ∧ heldI xs' k0 = k' ∧ k' = k0 + xs.length ∧ xs'.length = xs.length ∧ Mod B U w w') :=
  (markInt64S_any hv.ov h0 hb).mono fun r w' ⟨hr, ho, hg⟩ =>
    ⟨marks xs.length k0, k0 + xs.length, hr, ⟨ho, Nat.le_trans hv.2.1 hg.size, hv.2.2⟩, heldI_marks _ _, rfl, marks_len _ _, grown_mod hg hv.lt⟩
end Go.Proofs.YtebegkegkdmbjaaDoor
