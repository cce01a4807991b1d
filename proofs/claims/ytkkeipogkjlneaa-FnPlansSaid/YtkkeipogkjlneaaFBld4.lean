/-
  AncestorsOf, DoorsUnder, DoorsOf.
-/
import Derived.Test.YtkkeipogkjlneaaFBld3
namespace Go.Proofs.Ytkkeipogkjlneaa
open B Go.RowKit




theorem implDoorsUnder_any {w : World} {b : Value} {ps : List Int} {ds : List Bool} {x : Int} (hb : RdB w b ps ds) :
    Does Try.prog 105 #[b, .int .i64 x] w (fun r w' => ∃ v1, r = .tuple #[v1, .int .i64 (ncC ps ds [x])] ∧ OV w' w.heap.size 2 v1 (ints (duV ps ds x)) ∧ Ext w w') := by
  have hb0 := hb
  obtain ⟨vp, vd, rfl, hp, hd⟩ := hb
  refine enter Try.func105 rfl 17 Try.ntmps105 rfl (by kernel_rfl) ?_
  refine CW.seq ?_
  refine CW.region ?_
  refine RL.box (cs := [vp, vd]) rfl rfl rfl (fun w1 hV hE1 => ?_)
  refine RL.y rfl (y_asg rfl) ?_
  refine RL.y rfl (y_asg rfl) ?_
  refine RL.nil ?_
  refine Fin.next ?_
  refine CW.seq ?_
  refine CW.seq ?_
  refine CW.region ?_
  refine RL.y rfl (y_loads ag31 rfl (eqw (hV)) rfl) ?_
  refine RL.y rfl (y_mov (v := .int _ _) rfl) ?_
  refine RL.lit1 rfl sT22 rfl rfl (fun vl wl hol hEl hbl => ?_)
  refine RL.call rfl (nodeCode_any (ks := [x]) ((hb0.ext hE1).ext hEl) hol.sv) ?_
  rintro r w2 ⟨rfl, hE2⟩
  have hE12 := (hE1.trans hEl).trans hE2
  refine RL.y rfl (y_asg (v := .int _ _) rfl) ?_
  refine RL.nil ?_
  refine Fin.next ?_
  refine CW.seq ?_
  refine CW.region ?_
  refine RL.y rfl (y_mov (v := .int _ _) rfl) ?_
  refine RL.y rfl (y_ne rfl rfl) ?_
  refine RL.nil ?_
  refine Fin.next ?_
  refine CW.cond rfl rfl (fun hc => ?_) (fun hc => ?_)
  · with_reducible first | (replace hc := deNF hc) | (replace hc := of_decide_eq_true hc) | (replace hc := of_decide_eq_false hc) | (replace hc := deNT hc) | (replace hc := deNN hc) | (replace hc := bnT hc) | (replace hc := bnF hc) | skip
    refine CW.seq ?_
    refine CW.region ?_
    refine RL.y rfl (y_mov (v := .int _ _) rfl) ?_
    refine RL.y rfl (y_asg rfl) ?_
    refine RL.y rfl (y_asg (v := .int _ _) rfl) ?_
    refine RL.nil ?_
    refine Fin.next ?_
    refine CW.ret ?_
    refine Fin.thenRet ?_
    refine Fin.ret2 rfl (by conv => lhs; whnf) (by conv => lhs; whnf) ?_
    exact ⟨_, rfl, _, rfl, by unfold duV; rw [if_neg hc]; exact OV.nil _ _ _, hE12⟩
  · with_reducible first | (replace hc := deNF hc) | (replace hc := of_decide_eq_true hc) | (replace hc := of_decide_eq_false hc) | (replace hc := deNT hc) | (replace hc := deNN hc) | (replace hc := bnT hc) | (replace hc := bnF hc) | skip
    obtain ⟨hbl, hk⟩ := ncC_zero.1 hc
    have hkx := hk x (by simp)
    refine CW.skip ?_
    refine Fin.next ?_
    refine CW.seq ?_
    refine CW.region ?_
    refine RL.y rfl (y_loads ag31 rfl (eqw ((hV.ext hEl).ext hE2)) rfl) ?_
    refine RL.y rfl (y_mov (v := .int _ _) rfl) ?_
    refine RL.call rfl (doorsUnder_any (hb0.ext hE12) hbl hkx.1) ?_
    rintro v3 w3 ⟨ho, hE3⟩
    refine RL.y rfl (y_asg (by conv => lhs; whnf)) ?_
    refine RL.y rfl (y_asg rfl) ?_
    refine RL.nil ?_
    refine Fin.next ?_
    refine CW.ret ?_
    refine Fin.ret2 rfl (by conv => lhs; whnf) (by conv => lhs; whnf) ?_
    exact ⟨_, rfl, _, by rw [hc], by unfold duV; rw [if_pos hc]; exact ho.mono hE12.size, hE12.trans hE3⟩

theorem specDoorsOf_any {w : World} {b : Value} {ps : List Int} {ds : List Bool} (hb : RdB w b ps ds) :
    Does Try.prog 53 #[b] w (fun r w' => ∃ v1, r = .tuple #[v1, .int .i64 (ncC ps ds [0])] ∧ OV w' w.heap.size 2 v1 (ints (duV ps ds 0)) ∧ Ext w w') := by
  have hb0 := hb
  obtain ⟨vp, vd, rfl, hp, hd⟩ := hb
  refine enter Try.func53 rfl 9 Try.ntmps53 rfl (by kernel_rfl) ?_
  refine CW.seq ?_
  refine CW.region ?_
  refine RL.box (cs := [vp, vd]) rfl rfl rfl (fun w1 hV hE1 => ?_)
  refine RL.y rfl (y_asg rfl) ?_
  refine RL.y rfl (y_asg rfl) ?_
  refine RL.nil ?_
  refine Fin.next ?_
  refine CW.seq ?_
  refine CW.seq ?_
  refine CW.region ?_
  refine RL.y rfl (y_loads ag31 rfl (eqw (hV)) rfl) ?_
  refine RL.call rfl (specIsBuilding_any (hb0.ext hE1)) ?_
  rintro r w2 ⟨rfl, hE2⟩
  have hE12 := hE1.trans hE2
  refine RL.y rfl (y_not rfl) ?_
  refine RL.nil ?_
  refine Fin.next ?_
  refine CW.cond rfl rfl (fun hc => ?_) (fun hc => ?_)
  · with_reducible first | (replace hc := deNF hc) | (replace hc := of_decide_eq_true hc) | (replace hc := of_decide_eq_false hc) | (replace hc := deNT hc) | (replace hc := deNN hc) | (replace hc := bnT hc) | (replace hc := bnF hc) | skip
    have hno : ncC ps ds [0] = 1 := if_neg hc
    refine CW.seq ?_
    refine CW.region ?_
    refine RL.y rfl (y_asg rfl) ?_
    refine RL.y rfl (y_asg rfl) ?_
    refine RL.nil ?_
    refine Fin.next ?_
    refine CW.ret ?_
    refine Fin.thenRet ?_
    refine Fin.ret2 rfl (by conv => lhs; whnf) (by conv => lhs; whnf) ?_
    exact ⟨_, rfl, _, by rw [hno], by unfold duV; rw [if_neg (by omega)]; exact OV.nil _ _ _, hE12⟩
  · with_reducible first | (replace hc := deNF hc) | (replace hc := of_decide_eq_true hc) | (replace hc := of_decide_eq_false hc) | (replace hc := deNT hc) | (replace hc := deNN hc) | (replace hc := bnT hc) | (replace hc := bnF hc) | skip
    have hyes : ncC ps ds [0] = 0 := ncC_zero.2 ⟨hc, by have := hc.1.1; simp; omega⟩
    refine CW.skip ?_
    refine Fin.next ?_
    refine CW.seq ?_
    refine CW.region ?_
    refine RL.y rfl (y_loads ag31 rfl (eqw (hV.ext hE2)) rfl) ?_
    refine RL.call rfl (l09Doors_any (hb0.ext hE12) hc) ?_
    rintro v3 w3 ⟨ho, hE3⟩
    refine RL.y rfl (y_asg (by conv => lhs; whnf)) ?_
    refine RL.y rfl (y_asg rfl) ?_
    refine RL.nil ?_
    refine Fin.next ?_
    refine CW.ret ?_
    refine Fin.ret2 rfl (by conv => lhs; whnf) (by conv => lhs; whnf) ?_
    exact ⟨_, rfl, _, by rw [hyes], by unfold duV; rw [if_pos hyes]; exact ho.mono hE12.size, hE12.trans hE3⟩

theorem implDoorsOf_any {w : World} {b : Value} {ps : List Int} {ds : List Bool} (hb : RdB w b ps ds) :
    Does Try.prog 52 #[b] w (fun r w' => ∃ v1, r = .tuple #[v1, .int .i64 (ncC ps ds [0])] ∧ OV w' w.heap.size 2 v1 (ints (duV ps ds 0)) ∧ Ext w w') := by
  have hb0 := hb
  obtain ⟨vp, vd, rfl, hp, hd⟩ := hb
  refine enter Try.func52 rfl 8 Try.ntmps52 rfl (by kernel_rfl) ?_
  refine CW.seq ?_
  refine CW.region ?_
  refine RL.box (cs := [vp, vd]) rfl rfl rfl (fun w1 hV hE1 => ?_)
  refine RL.y rfl (y_asg rfl) ?_
  refine RL.y rfl (y_asg rfl) ?_
  refine RL.nil ?_
  refine Fin.next ?_
  refine CW.seq ?_
  refine CW.region ?_
  refine RL.y rfl (y_loads ag31 rfl (eqw (hV)) rfl) ?_
  refine RL.call rfl (implDoorsUnder_any (hb0.ext hE1)) ?_
  rintro r w2 ⟨v1, rfl, ho, hE2⟩
  refine RL.y rfl (y_ext0 rfl) ?_
  refine RL.y rfl (y_ext1 rfl) ?_
  refine RL.y rfl (y_asg (by conv => lhs; whnf)) ?_
  refine RL.y rfl (y_asg (v := .int _ _) rfl) ?_
  refine RL.nil ?_
  refine Fin.next ?_
  refine CW.ret ?_
  refine Fin.ret2 rfl (by conv => lhs; whnf) (by conv => lhs; whnf) ?_
  exact ⟨_, rfl, _, rfl, ho.mono hE1.size, hE1.trans hE2⟩
end Go.Proofs.Ytkkeipogkjlneaa
