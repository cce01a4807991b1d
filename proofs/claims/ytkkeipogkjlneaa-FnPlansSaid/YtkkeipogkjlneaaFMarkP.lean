/-
  'mark' and 'held' on plans.
-/
import Derived.Test.YtkkeipogkjlneaaFPln1
import Derived.Test.YtkkeipogkjlneaaFMarkB
namespace Go.Proofs.Ytkkeipogkjlneaa
open B Go.RowKit

theorem markPlan_any {w : World} {B U : Nat} {v : Value} {ps : List Int} {ds : List Bool} {rs : List (List Int)} {k0 : Int} (hv : OwP w B U v ps ds rs) (h0 : 0 ≤ k0) (hb : k0 + ps.length + ds.length + (tot rs : Nat) ≤ 4611686018427387904) :
    Does Try.prog 25 #[v, .int .i64 k0] w (fun r w' => r = .int .i64 (k0 + ps.length + ds.length + (tot rs : Nat)) ∧ OwP w' B U v (marks ps.length k0) (marksB ds.length (k0 + ps.length)) (marksN rs (k0 + ps.length + ds.length)) ∧ Mod B U w w') := by
  obtain ⟨vp, vd, vr, M, rfl, hob, ⟨cs, hor⟩, hM1, hM2⟩ := hv
  have hU := hor.1.2.1
  refine enter Try.func25 rfl 14 Try.ntmps25 rfl (by kernel_rfl) ?_
  refine CW.seq ?_
  refine CW.region ?_
  refine RL.box (cs := [vp, vd, vr]) rfl rfl rfl (fun w1 hV hE1 => ?_)
  refine RL.y rfl (y_asg rfl) ?_
  refine RL.nil ?_
  refine Fin.next ?_
  refine CW.seq ?_
  refine CW.region ?_
  refine RL.y rfl (y_fa fa33_0 rfl rfl) ?_
  refine RL.y rfl (y_loadp (ds := [vp, vd]) ag31 (eqw (hV)) rfl rfl rfl) ?_
  refine RL.y rfl (y_mov (v := .int _ _) rfl) ?_
  refine RL.call rfl (markBuilding_ex (hob.ext hE1) h0 (by omega)) ?_
  rintro r w2 ⟨rfl, ho2, hm2⟩
  have hV2 := hV.mod hm2 (by omega)
  have hs1 := hE1.size
  have hs2 := hm2.size
  have hor2 := (hor.ext hE1).mod hm2 (by omega)
  have hM12 := (hE1.mod B U).trans (hm2.wide (Nat.le_refl _) hM2)
  refine RL.y rfl (y_asg (v := .int _ _) rfl) ?_
  refine RL.nil ?_
  refine Fin.next ?_
  refine CW.seq ?_
  refine CW.region ?_
  refine RL.y rfl (y_fa fa33_1 rfl rfl) ?_
  refine RL.y rfl (y_loadv sc26 (eqw (hV2)) rfl rfl) ?_
  refine RL.y rfl (y_mov (v := .int _ _) rfl) ?_
  refine RL.call rfl (markInt64SS_any hor2 (by omega) (by omega)) ?_
  rintro r w3 ⟨rfl, ho3, hm3⟩
  have hob3 := ho2.mod hm3 (by omega)
  refine RL.y rfl (y_asg (v := .int _ _) rfl) ?_
  refine RL.nil ?_
  refine Fin.next ?_
  refine CW.seq ?_
  refine CW.region ?_
  refine RL.y rfl (y_mov (v := .int _ _) rfl) ?_
  refine RL.y rfl (y_asg (v := .int _ _) rfl) ?_
  refine RL.nil ?_
  refine Fin.next ?_
  refine CW.ret ?_
  refine Fin.ret1 rfl (by conv => lhs; whnf) ?_
  exact ⟨_, rfl, rfl, ⟨vp, vd, vr, M, rfl, hob3, ⟨cs, ho3⟩, hM1, hM2⟩, hM12.trans (hm3.wide hM1 (Nat.le_refl _))⟩

theorem heldPlan_any {w : World} {v : Value} {ps : List Int} {ds : List Bool} {rs : List (List Int)} {k0 : Int} (hv : RdP w v ps ds rs) (h0 : 0 ≤ k0) (hb : k0 + ps.length + ds.length + (tot rs : Nat) ≤ 4611686018427387904) :
    Does Try.prog 33 #[v, .int .i64 k0] w (fun r w' => r = .int .i64 (heldPl ps ds rs k0) ∧ Ext w w') := by
  obtain ⟨vp, vd, vr, rfl, hbb, hr⟩ := hv
  refine enter Try.func33 rfl 18 Try.ntmps33 rfl (by kernel_rfl) ?_
  refine CW.seq ?_
  refine CW.region ?_
  refine RL.box (cs := [vp, vd, vr]) rfl rfl rfl (fun w1 hV hE1 => ?_)
  refine RL.y rfl (y_asg rfl) ?_
  refine RL.nil ?_
  refine Fin.next ?_
  refine CW.seq ?_
  refine CW.region ?_
  refine RL.y rfl (y_fa fa33_0 rfl rfl) ?_
  refine RL.y rfl (y_loadp (ds := [vp, vd]) ag31 (eqw (hV)) rfl rfl rfl) ?_
  refine RL.y rfl (y_mov (v := .int _ _) rfl) ?_
  refine RL.call rfl (heldBuilding_any (hbb.ext hE1) h0 (by omega)) ?_
  rintro r w2 ⟨rfl, hE2⟩
  have hE12 := hE1.trans hE2
  have hrg := heldBd_range (ps := ps) (ds := ds) (k := k0)
  refine RL.y rfl (y_asg (v := .int _ _) rfl) ?_
  refine RL.nil ?_
  refine Fin.next ?_
  refine CW.seq ?_
  refine CW.seq ?_
  refine CW.region ?_
  refine RL.y rfl (y_mov (v := .int _ _) rfl) ?_
  refine RL.y rfl (y_lt rfl rfl) ?_
  refine RL.nil ?_
  refine Fin.next ?_
  refine CW.cond rfl rfl (fun hc => ?_) (fun hc => ?_)
  · with_reducible first | (replace hc := deNF hc) | (replace hc := of_decide_eq_true hc) | (replace hc := of_decide_eq_false hc) | (replace hc := deNT hc) | (replace hc := deNN hc) | (replace hc := bnT hc) | (replace hc := bnF hc) | skip
    refine CW.seq ?_
    refine CW.region ?_
    refine RL.y rfl (y_asg rfl) ?_
    refine RL.nil ?_
    refine Fin.next ?_
    refine CW.ret ?_
    refine Fin.thenRet ?_
    refine Fin.ret1 rfl (by conv => lhs; whnf) ?_
    exact ⟨_, rfl, by unfold heldPl; rw [if_pos hc], hE12⟩
  · with_reducible first | (replace hc := deNF hc) | (replace hc := of_decide_eq_true hc) | (replace hc := of_decide_eq_false hc) | (replace hc := deNT hc) | (replace hc := deNN hc) | (replace hc := bnT hc) | (replace hc := bnF hc) | skip
    refine CW.skip ?_
    refine Fin.next ?_
    refine CW.seq ?_
    refine CW.region ?_
    refine RL.y rfl (y_fa fa33_1 rfl rfl) ?_
    refine RL.y rfl (y_loadv sc26 (eqw (hV.ext hE2)) rfl rfl) ?_
    refine RL.y rfl (y_mov (v := .int _ _) rfl) ?_
    refine RL.call rfl (heldInt64SS_any (hr.ext hE12) (by omega) (by omega)) ?_
    rintro r w3 ⟨rfl, hE3⟩
    refine RL.y rfl (y_asg (v := .int _ _) rfl) ?_
    refine RL.nil ?_
    refine Fin.next ?_
    refine CW.seq ?_
    refine CW.seq ?_
    refine CW.region ?_
    refine RL.y rfl (y_mov (v := .int _ _) rfl) ?_
    refine RL.y rfl (y_lt rfl rfl) ?_
    refine RL.nil ?_
    refine Fin.next ?_
    refine CW.cond rfl rfl (fun hc2 => ?_) (fun hc2 => ?_)
    · with_reducible first | (replace hc2 := deNF hc2) | (replace hc2 := of_decide_eq_true hc2) | (replace hc2 := of_decide_eq_false hc2) | (replace hc2 := deNT hc2) | (replace hc2 := deNN hc2) | (replace hc2 := bnT hc2) | (replace hc2 := bnF hc2) | skip
      refine CW.seq ?_
      refine CW.region ?_
      refine RL.y rfl (y_asg rfl) ?_
      refine RL.nil ?_
      refine Fin.next ?_
      refine CW.ret ?_
      refine Fin.thenRet ?_
      refine Fin.ret1 rfl (by conv => lhs; whnf) ?_
      exact ⟨_, rfl, by unfold heldPl; rw [if_neg hc, if_pos hc2], hE12.trans hE3⟩
    · with_reducible first | (replace hc2 := deNF hc2) | (replace hc2 := of_decide_eq_true hc2) | (replace hc2 := of_decide_eq_false hc2) | (replace hc2 := deNT hc2) | (replace hc2 := deNN hc2) | (replace hc2 := bnT hc2) | (replace hc2 := bnF hc2) | skip
      refine CW.skip ?_
      refine Fin.next ?_
      refine CW.seq ?_
      refine CW.region ?_
      refine RL.y rfl (y_mov (v := .int _ _) rfl) ?_
      refine RL.y rfl (y_asg (v := .int _ _) rfl) ?_
      refine RL.nil ?_
      refine Fin.next ?_
      refine CW.ret ?_
      refine Fin.ret1 rfl (by conv => lhs; whnf) ?_
      exact ⟨_, rfl, by unfold heldPl; rw [if_neg hc, if_neg hc2], hE12.trans hE3⟩

/-- 'mark' on a plan that a call has made. -/
theorem markP_own {w : World} {B U : Nat} {v : Value} {ps : List Int} {ds : List Bool} {rs : List (List Int)} {k0 : Int} (hv : OwP w B U v ps ds rs) (h0 : 0 ≤ k0) (hb : k0 + ps.length + ds.length + (tot rs : Nat) ≤ 4611686018427387904) :
    Does Try.prog 25 #[v, .int .i64 k0] w (fun r w' => ∃ (xs : List Int × List Bool × List (List Int)) (k' : Int), r = .int .i64 k' ∧ OwP w' B U v xs.1 xs.2.1 xs.2.2 ∧ heldPl xs.1 xs.2.1 xs.2.2 k0 = k' ∧ k' = k0 + ps.length + ds.length + (tot rs : Nat) ∧ (xs.1.length = ps.length ∧ xs.2.1.length = ds.length ∧ tot xs.2.2 = tot rs) ∧ Mod B U w w') :=
  (markPlan_any hv h0 hb).mono fun r w' ⟨hr, ho, hM⟩ => ⟨(marks ps.length k0, marksB ds.length (k0 + ps.length), marksN rs (k0 + ps.length + ds.length)), _, hr, ho, heldPl_marks h0, rfl, ⟨marks_len _ _, marksB_len _ _, marksN_tot _ _⟩, hM⟩
end Go.Proofs.Ytkkeipogkjlneaa
