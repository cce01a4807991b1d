/-
  The program's IsHierarchical returns what the reference's IsHierarchical returns, for all arguments; the arguments read behind the call as before it. No condition.
-/
import Derived.Test.YtaabfkcbkcmneaaFTab2
import Derived.Test.YtaabfkcbkcmneaaLift2
import Derived.Test.YtaabfkcbkcmneaaRows
namespace Go.Proofs.Ytaabfkcbkcmneaa
open B Go.RowKit

theorem lawIsHierarchical (w : World) (v0 : Value) (xs0 : List (List Int)) (hs0 : RdSS w v0 xs0) (_ : ∀ r ∈ xs0, ∀ x ∈ r, I64 x) :
    Does Try.prog 6 #[v0] w (fun r w' => r = .bool true ∧ Ext w w') := by
  have hT0 := sizeN_tot xs0
  refine enter Try.func6 rfl 40 Try.ntmps6 rfl (by kernel_rfl) ?_
  refine CW.seq ?_
  refine CW.region ?_
  refine RL.y rfl (y_asg rfl) ?_
  refine RL.nil ?_
  refine Fin.next ?_
  refine CW.seq ?_
  refine CW.region ?_
  refine RL.y rfl (y_asg rfl) ?_
  refine RL.nil ?_
  refine Fin.next ?_
  refine CW.seq ?_
  refine CW.region ?_
  refine RL.y rfl (y_mov (by conv => lhs; whnf)) ?_
  refine RL.y rfl (y_mov (v := .int _ _) rfl) ?_
  refine RL.call rfl (szInt64SS_any (hs0.ext (Ext.refl w)) (by omega) (by omega)) ?_
  rintro r w1 ⟨rfl, rfl⟩
  refine RL.y rfl (y_asg (v := .int _ _) rfl) ?_
  refine RL.nil ?_
  refine Fin.next ?_
  refine CW.seq ?_
  refine CW.seq ?_
  refine CW.region ?_
  refine RL.y rfl (y_mov (v := .int _ _) rfl) ?_
  refine RL.y rfl (y_lt rfl rfl) ?_
  refine RL.nil ?_
  refine Fin.next ?_
  refine CW.cond rfl rfl (fun hbig1 => ?_) (fun hbig1 => ?_)
  · with_reducible first | (replace hbig1 := deNF hbig1) | (replace hbig1 := of_decide_eq_true hbig1) | (replace hbig1 := of_decide_eq_false hbig1) | (replace hbig1 := deNT hbig1) | (replace hbig1 := deNN hbig1) | (replace hbig1 := bnT hbig1) | (replace hbig1 := bnF hbig1) | skip
    refine CW.seq ?_
    refine CW.region ?_
    refine RL.y rfl (y_asg rfl) ?_
    refine RL.nil ?_
    refine Fin.next ?_
    refine CW.ret ?_
    refine Fin.thenRet ?_
    refine Fin.ret1 rfl (by conv => lhs; whnf) ?_
    exact ⟨_, rfl, rfl, (Ext.refl w)⟩
  · with_reducible first | (replace hbig1 := deNF hbig1) | (replace hbig1 := of_decide_eq_true hbig1) | (replace hbig1 := of_decide_eq_false hbig1) | (replace hbig1 := deNT hbig1) | (replace hbig1 := deNN hbig1) | (replace hbig1 := bnT hbig1) | (replace hbig1 := bnF hbig1) | skip
    obtain ⟨hsz1, hszv1⟩ := szV_ok hbig1
    refine CW.skip ?_
    refine Fin.next ?_
    refine CW.seq ?_
    refine CW.region ?_
    refine RL.y rfl (y_mov (by conv => lhs; whnf)) ?_
    refine RL.call rfl (toInt64SS_any (hs0.ext (Ext.refl w)) (by omega)) ?_
    rintro v w2 ⟨ho2x0, hX2⟩
    have hsz2 := hX2.size
    have hE2 := hX2
    replace ho2x0 := OwSS.of ho2x0
    refine RL.call rfl (specIsHierarchical_any ho2x0.rd) ?_
    rintro r w3 ⟨rfl, hX3⟩
    have hsz3 := hX3.size
    replace ho2x0 := ho2x0.ext hX3
    have hE3 := hE2.trans hX3
    refine RL.y rfl (y_mov (by conv => lhs; whnf)) ?_
    refine RL.y rfl (y_ext0 rfl) ?_
    refine RL.y rfl (y_ext1 rfl) ?_
    refine RL.y rfl (y_asg (v := .bool _) rfl) ?_
    refine RL.y rfl (y_asg (v := .int _ _) rfl) ?_
    refine RL.nil ?_
    refine Fin.next ?_
    refine CW.seq ?_
    refine CW.region ?_
    refine RL.y rfl (y_mov (by conv => lhs; whnf)) ?_
    refine RL.call rfl (toInt64SS_any (hs0.ext hE3) (by omega)) ?_
    rintro v w4 ⟨ho4x0, hX4⟩
    have hsz4 := hX4.size
    replace ho2x0 := ho2x0.ext hX4
    have hE4 := hE3.trans hX4
    replace ho4x0 := OwSS.of ho4x0
    refine RL.y rfl (y_asg (by conv => lhs; whnf)) ?_
    refine RL.nil ?_
    refine Fin.next ?_
    refine CW.seq ?_
    refine CW.region ?_
    refine RL.y rfl (y_mov (by conv => lhs; whnf)) ?_
    refine RL.call rfl (implIsHierarchical_any ho4x0.rd) ?_
    rintro r w5 ⟨rfl, hX5⟩
    have hsz5 := hX5.size
    replace ho2x0 := ho2x0.ext hX5
    replace ho4x0 := ho4x0.ext hX5
    have hE5 := hE4.trans hX5
    refine RL.y rfl (y_mov (by conv => lhs; whnf)) ?_
    refine RL.y rfl (y_ext0 rfl) ?_
    refine RL.y rfl (y_ext1 rfl) ?_
    refine RL.y rfl (y_asg (v := .bool _) rfl) ?_
    refine RL.y rfl (y_asg (v := .int _ _) rfl) ?_
    refine RL.nil ?_
    refine Fin.next ?_
    refine CW.seq ?_
    refine CW.seq ?_
    refine CW.region ?_
    refine RL.y rfl (y_mov (v := .bool _) rfl) ?_
    refine RL.y rfl (y_mov (v := .bool _) rfl) ?_
    refine RL.y rfl (y_bne Try.underlying4 rfl rfl) ?_
    refine RL.y rfl (y_mov (v := .bool _) rfl) ?_
    refine RL.force (t := 30) false rfl rfl (by first | (simp; done) | exact decide_eq_false (by omega)) ?_
    refine RL.take (t := 30) rfl rfl rfl ?_
    refine RL.y rfl (y_mov (v := .int _ _) rfl) ?_
    refine RL.take (t := 30) rfl rfl rfl ?_
    refine RL.y rfl (y_mov (v := .int _ _) rfl) ?_
    refine RL.take (t := 30) rfl rfl rfl ?_
    refine RL.y rfl (y_ne rfl rfl) ?_
    refine RL.y rfl (y_pickF (v := .bool _) rfl rfl) ?_
    refine RL.nil ?_
    refine Fin.next ?_
    refine CW.condF rfl (by first | (simp; done) | exact decide_eq_false (by omega)) ?_
    refine CW.skip ?_
    refine Fin.next ?_
    refine CW.seq ?_
    refine CW.seq ?_
    refine CW.region ?_
    refine RL.y rfl (y_mov (by conv => lhs; whnf)) ?_
    refine RL.y rfl (y_mov (by conv => lhs; whnf)) ?_
    refine RL.call rfl (toInt64SS_any (hs0.ext hE5) (by omega)) ?_
    rintro v w6 ⟨ho6x0, hX6⟩
    have hsz6 := hX6.size
    replace ho2x0 := ho2x0.ext hX6
    replace ho4x0 := ho4x0.ext hX6
    have hE6 := hE5.trans hX6
    replace ho6x0 := OwSS.of ho6x0
    refine RL.call rfl (eqInt64SS_any ho4x0.rd ho6x0.rd) ?_
    rintro r w7 ⟨rfl, hX7⟩
    have hsz7 := hX7.size
    replace ho2x0 := ho2x0.ext hX7
    replace ho4x0 := ho4x0.ext hX7
    replace ho6x0 := ho6x0.ext hX7
    have hE7 := hE6.trans hX7
    refine RL.y rfl (y_not rfl) ?_
    refine RL.nil ?_
    refine Fin.next ?_
    refine CW.condF rfl (by first | (simp; done) | exact decide_eq_false (by omega)) ?_
    refine CW.skip ?_
    refine Fin.next ?_
    refine CW.seq ?_
    refine CW.region ?_
    refine RL.y rfl (y_asg rfl) ?_
    refine RL.nil ?_
    refine Fin.next ?_
    refine CW.ret ?_
    refine Fin.ret1 rfl (by conv => lhs; whnf) ?_
    exact ⟨_, rfl, rfl, hE7⟩
namespace fnExactIsHierarchical
open Go.ChangeShapes Go.WideShapes Go.ChangeAt Go.RowKit
set_option linter.unusedVariables false
theorem own : ownKnob Try.prog.godebug = none := by kernel_rfl
theorem laidOut : laidOutB Try.prog = true := by kernel_rfl
set_option maxRecDepth 100000 in
theorem lifted (os : Os) (started : os.Started) (H : Type) (enc : TypeId × Value → H) :
    ReturnsInHanded {} Try.checked os 6 .any (Rows.fnExactIsHierarchicalSpec.pre6 enc Try.prog Try.f6 Rows.fnExactIsHierarchicalRow.domain false) (Rows.fnExactIsHierarchicalSpec.post enc Try.prog Try.f6 false true false false) := by
  refine returnsInHanded_of_change (C := Try.checked) own started (by kernel_rfl) Try.func6
    (ChangeSpec.witness6 (enc := enc) (C := Try.checked) false ⟨#[], #[.slice none 0 0], []⟩ 8 (by kernel_rfl) (by kernel_rfl) (by kernel_rfl) (by kernel_rfl)) ?_
  intro W base args ds gs before hval0 hW hcnd _
  have hval : ∀ (j : Nat) t v, Try.f6.params[j]? = some t → args[j]? = some v → Value.okWide Try.prog W .any base t v := hval0
  have hW' := hW
  obtain ⟨p, q, hA0, hV, rfl, hfz, hnd⟩ := hW
  have hA : DataW.TrodAll enc Try.prog W 0 (fun _ => true) true Try.f6.params.toList args.toList ds p := hA0
  rw [Try.params6] at hA hval
  have hkeep := hA
  obtain ⟨v0, vs0, d0, ds0, p0, q0, hargs, rfl, rfl, h0, r0⟩ := trodAll_cons hA
  obtain ⟨rfl, rfl, rfl⟩ := trodAll_nil r0
  obtain rfl : args = #[v0] := by cases args; simp_all
  obtain ⟨rfl, rfl⟩ := trodVars_none hV
  obtain ⟨xs0, hs0, wf0⟩ := open_RdSS Try.underlying22 Try.underlying34 Try.underlying2 (by kernel_rfl) (by kernel_rfl) (hval 0 22 v0 rfl rfl) h0
  refine (lawIsHierarchical W v0 xs0 hs0 wf0).calls.mono fun e W' ⟨r, he, hr, hg⟩ => ?_
  subst hr
  subst he
  exact ⟨_, rfl, _, _, _, [] ++ [], _, [], hW', trodAll_cons_mk (shut_bool Try.underlying4 _) trodAll_mk0, trodAll_ext laidOut (by kernel_rfl) hkeep hg (fun x hx => hW'.lt x (List.mem_append_left _ hx)), rfl, hg.frame _, fun h => by cases h⟩
theorem over : Rows.fnExactIsHierarchicalRow.holds Try.pinned (OpenSpec.ofChange Rows.fnExactIsHierarchicalSpec) :=
  OpenClaim.holds_of_wide 6 Try.f6 rfl rfl rfl rfl rfl rfl rfl ⟨rfl, rfl, rfl, rfl, rfl⟩ rfl rfl rfl rfl rfl (by kernel_rfl) Try.func6 (by kernel_rfl)
    (of_decide_eq_true (by kernel_rfl)) (by unfold Func.isWrapper; first | (rw [if_pos (by decide +kernel)]; kernel_rfl) | (rw [if_neg (by decide +kernel)]; exact ⟨rfl, rfl⟩))
    (fun os started H enc _ => lifted os started H enc)
theorem proved : Rows.FnExactIsHierarchicalSaid := over
end fnExactIsHierarchical
#print axioms fnExactIsHierarchical.proved
end Go.Proofs.Ytaabfkcbkcmneaa
