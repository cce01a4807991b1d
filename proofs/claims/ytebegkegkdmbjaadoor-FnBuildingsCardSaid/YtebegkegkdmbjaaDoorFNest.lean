/-
  The helpers of the laws on slices of slices of int64.
-/
import Derived.Test.YtebegkegkdmbjaaDoorFInts
import Derived.Test.YtebegkegkdmbjaaDoorNest
namespace Go.Proofs.YtebegkegkdmbjaaDoor
open B Go.RowKit

abbrev RdSS (w : World) (v : Value) (rs : List (List Int)) : Prop := RdN ints w v rs
abbrev RuSS (w : World) (B U : Nat) (v : Value) (rs : List (List Int)) : Prop := RuN ints w B U v rs
abbrev OwSS (w : World) (B U : Nat) (v : Value) (rs : List (List Int)) : Prop := OwN ints 2 22 w B U v rs
theorem OwSS.of {w : World} {B U : Nat} {v : Value} {rs : List (List Int)} (h : OwSS w B U v rs) : OwSS w B U v rs := h
theorem RuSS.of {w : World} {B U : Nat} {v : Value} {rs : List (List Int)} (h : RuSS w B U v rs) : RuSS w B U v rs := h

theorem szInt64S_any {w : World} {v : Value} {xs : List Int} {left : Int} (hv : SI w v xs) (h0 : 0 ≤ left) (h1 : left ≤ 1048576) :
    Does Tryd.prog 43 #[v, .int .i64 left] w (fun r w' => r = .int .i64 (szV xs.length left) ∧ w = w') := by
  have hxl := SI.le hv
  refine enter Tryd.func43 rfl 12 Tryd.ntmps43 rfl (by kernel_rfl) ?_
  refine CW.seq ?_
  refine CW.region ?_
  refine RL.y rfl (y_asg rfl) ?_
  refine RL.nil ?_
  refine Fin.next ?_
  refine CW.seq ?_
  refine CW.region ?_
  refine RL.y rfl (y_mov (v := .int _ _) rfl) ?_
  refine RL.y rfl (y_mov (by conv => lhs; whnf)) ?_
  refine RL.y rfl (y_len sT22 hv (ints_len _) rfl) ?_
  refine RL.y rfl (y_sub rfl rfl (IntWalk.i64_in _ (by omega))) ?_
  refine RL.y rfl (y_asg (v := .int _ _) rfl) ?_
  refine RL.nil ?_
  refine Fin.next ?_
  refine CW.seq ?_
  refine CW.seq ?_
  refine CW.region ?_
  refine RL.y rfl (y_mov (v := .int _ _) rfl) ?_
  refine RL.y rfl (y_lt rfl rfl) ?_
  refine RL.nil ?_
  refine Fin.next ?_
  refine CW.cond rfl rfl (fun hc => ?_) (fun hc => ?_)
  · with_reducible first | (replace hc := deNF hc) | (replace hc := of_decide_eq_true hc) | (replace hc := of_decide_eq_false hc) | (replace hc := deNT hc) | (replace hc := deNN hc) | (replace hc := bnT hc) | (replace hc := bnF hc) | skip
    refine CW.seq ?_
    refine CW.region ?_
    refine RL.y rfl (y_asg rfl) ?_
    refine RL.nil ?_
    refine Fin.next ?_
    refine CW.ret ?_
    refine Fin.thenRet ?_
    refine Fin.ret1 rfl (by conv => lhs; whnf) ?_
    exact ⟨_, rfl, by rw [szV_no hc], rfl⟩
  · with_reducible first | (replace hc := deNF hc) | (replace hc := of_decide_eq_true hc) | (replace hc := of_decide_eq_false hc) | (replace hc := deNT hc) | (replace hc := deNN hc) | (replace hc := bnT hc) | (replace hc := bnF hc) | skip
    refine CW.skip ?_
    refine Fin.next ?_
    refine CW.seq ?_
    refine CW.region ?_
    refine RL.y rfl (y_mov (v := .int _ _) rfl) ?_
    refine RL.y rfl (y_asg (v := .int _ _) rfl) ?_
    refine RL.nil ?_
    refine Fin.next ?_
    refine CW.ret ?_
    refine Fin.ret1 rfl (by conv => lhs; whnf) ?_
    exact ⟨_, rfl, by rw [szV_yes hc], rfl⟩






end Go.Proofs.YtebegkegkdmbjaaDoor
