/-
  The program's CountBlanks returns what the reference's CountBlanks returns, for all arguments; the arguments read behind the call as before it. No condition.
-/
import Derived.Test.YtgfaimkbedbanaaFKey3
import Derived.Test.YtgfaimkbedbanaaLift
import Derived.Test.YtgfaimkbedbanaaRows
namespace Go.Proofs.Ytgfaimkbedbanaa
open B Go.RowKit

theorem lawCountBlanks (w : World) (a0 : Int) (_ : I64 a0) :
    Does Try.prog 6 #[.int .i64 a0] w (fun r w' => r = .bool true ∧ Ext w w') := by
  refine enter Try.func6 rfl 25 Try.ntmps6 rfl (by kernel_rfl) ?_
  refine CW.seq ?_
  refine CW.region ?_
  refine RL.y rfl (y_asg rfl) ?_
  refine RL.nil ?_
  refine Fin.next ?_
  refine CW.seq ?_
  refine CW.region ?_
  refine RL.y rfl (y_mov (v := .int _ _) rfl) ?_
  refine RL.call rfl (specCountBlanks_any) ?_
  rintro r w1 ⟨rfl, rfl⟩
  refine RL.y rfl (y_mov (by conv => lhs; whnf)) ?_
  refine RL.y rfl (y_ext0 rfl) ?_
  refine RL.y rfl (y_ext1 rfl) ?_
  refine RL.y rfl (y_asg (v := .int _ _) rfl) ?_
  refine RL.y rfl (y_asg (v := .int _ _) rfl) ?_
  refine RL.nil ?_
  refine Fin.next ?_
  refine CW.seq ?_
  refine CW.region ?_
  refine RL.y rfl (y_mov (v := .int _ _) rfl) ?_
  refine RL.call rfl (implCountBlanks_any) ?_
  rintro r w2 ⟨rfl, rfl⟩
  refine RL.y rfl (y_mov (by conv => lhs; whnf)) ?_
  refine RL.y rfl (y_ext0 rfl) ?_
  refine RL.y rfl (y_ext1 rfl) ?_
  refine RL.y rfl (y_asg (v := .int _ _) rfl) ?_
  refine RL.y rfl (y_asg (v := .int _ _) rfl) ?_
  refine RL.nil ?_
  refine Fin.next ?_
  refine CW.seq ?_
  refine CW.seq ?_
  refine CW.region ?_
  refine RL.y rfl (y_mov (v := .int _ _) rfl) ?_
  refine RL.y rfl (y_mov (v := .int _ _) rfl) ?_
  refine RL.y rfl (y_ne rfl rfl) ?_
  refine RL.y rfl (y_mov (v := .bool _) rfl) ?_
  refine RL.force (t := 20) false rfl rfl (by first | (simp; done) | exact decide_eq_false (by omega)) ?_
  refine RL.take (t := 20) rfl rfl rfl ?_
  refine RL.y rfl (y_mov (v := .int _ _) rfl) ?_
  refine RL.take (t := 20) rfl rfl rfl ?_
  refine RL.y rfl (y_mov (v := .int _ _) rfl) ?_
  refine RL.take (t := 20) rfl rfl rfl ?_
  refine RL.y rfl (y_ne rfl rfl) ?_
  refine RL.y rfl (y_pickF (v := .bool _) rfl rfl) ?_
  refine RL.nil ?_
  refine Fin.next ?_
  refine CW.condF rfl (by first | (simp; done) | exact decide_eq_false (by omega)) ?_
  refine CW.skip ?_
  refine Fin.next ?_
  refine CW.seq ?_
  refine CW.region ?_
  refine RL.y rfl (y_asg rfl) ?_
  refine RL.nil ?_
  refine Fin.next ?_
  refine CW.ret ?_
  refine Fin.ret1 rfl (by conv => lhs; whnf) ?_
  exact ⟨_, rfl, rfl, (Ext.refl w)⟩
namespace fnExactCountBlanks
open Go.ChangeShapes Go.WideShapes Go.ChangeAt Go.RowKit
set_option linter.unusedVariables false
theorem own : ownKnob Try.prog.godebug = none := by kernel_rfl
theorem laidOut : laidOutB Try.prog = true := by kernel_rfl
set_option maxRecDepth 100000 in
theorem lifted (os : Os) (started : os.Started) (H : Type) (enc : TypeId × Value → H) :
    ReturnsInHanded {} Try.checked os 6 .any (Rows.fnExactCountBlanksSpec.pre6 enc Try.prog Try.f6 Rows.fnExactCountBlanksRow.domain false) (Rows.fnExactCountBlanksSpec.post enc Try.prog Try.f6 false true false false) := by
  refine returnsInHanded_of_change (C := Try.checked) own started (by kernel_rfl) Try.func6
    (ChangeSpec.witness6 (enc := enc) (C := Try.checked) false ⟨#[], #[.int .i64 0], []⟩ 8 (by kernel_rfl) (by kernel_rfl) (by kernel_rfl) (by kernel_rfl)) ?_
  intro W base args ds gs before hval0 hW hcnd _
  have hval : ∀ (j : Nat) t v, Try.f6.params[j]? = some t → args[j]? = some v → Value.okWide Try.prog W .any base t v := hval0
  have hW' := hW
  obtain ⟨p, q, hA0, hV, rfl, hfz, hnd⟩ := hW
  have hA : DataW.TrodAll enc Try.prog W 0 (fun _ => true) true Try.f6.params.toList args.toList ds p := hA0
  rw [Try.params6] at hA hval
  have hkeep := hA
  obtain ⟨v0, vs0, d0, ds0, p0, q0, hargs, rfl, rfl, h0, r0⟩ := trodAll_cons hA
  obtain ⟨rfl, rfl, rfl⟩ := trodAll_nil r0
  obtain rfl : args = #[v0] := by cases args; simp_all
  obtain ⟨rfl, rfl⟩ := trodVars_none hV
  obtain ⟨a0, rfl, rfl, rfl, w00⟩ := open_int Try.underlying2 (hval 0 2 v0 rfl rfl) h0
  have w0 := I64.of w00
  refine (lawCountBlanks W a0 w0).calls.mono fun e W' ⟨r, he, hr, hg⟩ => ?_
  subst hr
  subst he
  exact ⟨_, rfl, _, _, _, [] ++ [], _, [], hW', trodAll_cons_mk (shut_bool Try.underlying4 _) trodAll_mk0, trodAll_ext laidOut (by kernel_rfl) hkeep hg (fun x hx => hW'.lt x (List.mem_append_left _ hx)), rfl, hg.frame _, fun h => by cases h⟩
theorem over : Rows.fnExactCountBlanksRow.holds Try.pinned (OpenSpec.ofChange Rows.fnExactCountBlanksSpec) :=
  OpenClaim.holds_of_wide 6 Try.f6 rfl rfl rfl rfl rfl rfl rfl ⟨rfl, rfl, rfl, rfl, rfl⟩ rfl rfl rfl rfl rfl (by kernel_rfl) Try.func6 (by kernel_rfl)
    (of_decide_eq_true (by kernel_rfl)) (by unfold Func.isWrapper; first | (rw [if_pos (by decide +kernel)]; kernel_rfl) | (rw [if_neg (by decide +kernel)]; exact ⟨rfl, rfl⟩))
    (fun os started H enc _ => lifted os started H enc)
theorem proved : Rows.FnExactCountBlanksSaid := over
end fnExactCountBlanks
#print axioms fnExactCountBlanks.proved
end Go.Proofs.Ytgfaimkbedbanaa
