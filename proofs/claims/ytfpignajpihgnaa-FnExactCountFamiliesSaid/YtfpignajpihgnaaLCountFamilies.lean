/-
  The program's CountFamilies returns what the reference's CountFamilies returns, for all arguments; the arguments read behind the call as before it. No condition.
-/
import Derived.Test.YtfpignajpihgnaaFSide3
import Derived.Test.YtfpignajpihgnaaLift
import Derived.Test.YtfpignajpihgnaaRows
namespace Go.Proofs.Ytfpignajpihgnaa
open B Go.RowKit

theorem lawCountFamilies (w : World) (a0 : Int) (_ : I64 a0) (a1 : Int) (_ : I64 a1) (a2 : Int) (_ : I64 a2) :
    Does Try.prog 7 #[.int .i64 a0, .int .i64 a1, .int .i64 a2] w (fun r w' => r = .bool true ∧ Ext w w') := by
  refine enter Try.func7 rfl 33 Try.ntmps7 rfl (by kernel_rfl) ?_
  refine CW.seq ?_
  refine CW.region ?_
  refine RL.y rfl (y_asg rfl) ?_
  refine RL.nil ?_
  refine Fin.next ?_
  refine CW.seq ?_
  refine CW.region ?_
  refine RL.y rfl (y_mov (v := .int _ _) rfl) ?_
  refine RL.y rfl (y_mov (v := .int _ _) rfl) ?_
  refine RL.y rfl (y_mov (v := .int _ _) rfl) ?_
  refine RL.call rfl (specCountFamilies_any) ?_
  rintro r w1 ⟨rfl, hX1⟩
  have hsz1 := hX1.size
  have hE1 := hX1
  refine RL.y rfl (y_mov (by conv => lhs; whnf)) ?_
  refine RL.y rfl (y_ext0 rfl) ?_
  refine RL.y rfl (y_ext1 rfl) ?_
  refine RL.y rfl (y_asg (v := .int _ _) rfl) ?_
  refine RL.y rfl (y_asg (v := .int _ _) rfl) ?_
  refine RL.nil ?_
  refine Fin.next ?_
  refine CW.seq ?_
  refine CW.region ?_
  refine RL.y rfl (y_mov (v := .int _ _) rfl) ?_
  refine RL.y rfl (y_mov (v := .int _ _) rfl) ?_
  refine RL.y rfl (y_mov (v := .int _ _) rfl) ?_
  refine RL.call rfl (implCountFamilies_any) ?_
  rintro r w2 ⟨rfl, hX2⟩
  have hsz2 := hX2.size
  have hE2 := hE1.trans hX2
  refine RL.y rfl (y_mov (by conv => lhs; whnf)) ?_
  refine RL.y rfl (y_ext0 rfl) ?_
  refine RL.y rfl (y_ext1 rfl) ?_
  refine RL.y rfl (y_asg (v := .int _ _) rfl) ?_
  refine RL.y rfl (y_asg (v := .int _ _) rfl) ?_
  refine RL.nil ?_
  refine Fin.next ?_
  refine CW.seq ?_
  refine CW.seq ?_
  refine CW.region ?_
  refine RL.y rfl (y_mov (v := .int _ _) rfl) ?_
  refine RL.y rfl (y_mov (v := .int _ _) rfl) ?_
  refine RL.y rfl (y_ne rfl rfl) ?_
  refine RL.y rfl (y_mov (v := .bool _) rfl) ?_
  refine RL.force (t := 28) false rfl rfl (by first | (simp; done) | exact decide_eq_false (by omega)) ?_
  refine RL.take (t := 28) rfl rfl rfl ?_
  refine RL.y rfl (y_mov (v := .int _ _) rfl) ?_
  refine RL.take (t := 28) rfl rfl rfl ?_
  refine RL.y rfl (y_mov (v := .int _ _) rfl) ?_
  refine RL.take (t := 28) rfl rfl rfl ?_
  refine RL.y rfl (y_ne rfl rfl) ?_
  refine RL.y rfl (y_pickF (v := .bool _) rfl rfl) ?_
  refine RL.nil ?_
  refine Fin.next ?_
  refine CW.condF rfl (by first | (simp; done) | exact decide_eq_false (by omega)) ?_
  refine CW.skip ?_
  refine Fin.next ?_
  refine CW.seq ?_
  refine CW.region ?_
  refine RL.y rfl (y_asg rfl) ?_
  refine RL.nil ?_
  refine Fin.next ?_
  refine CW.ret ?_
  refine Fin.ret1 rfl (by conv => lhs; whnf) ?_
  exact ⟨_, rfl, rfl, hE2⟩
namespace fnExactCountFamilies
open Go.ChangeShapes Go.WideShapes Go.ChangeAt Go.RowKit
set_option linter.unusedVariables false
theorem own : ownKnob Try.prog.godebug = none := by kernel_rfl
theorem laidOut : laidOutB Try.prog = true := by kernel_rfl
set_option maxRecDepth 100000 in
theorem lifted (os : Os) (started : os.Started) (H : Type) (enc : TypeId × Value → H) :
    ReturnsInHanded {} Try.checked os 7 .any (Rows.fnExactCountFamiliesSpec.pre6 enc Try.prog Try.f7 Rows.fnExactCountFamiliesRow.domain false) (Rows.fnExactCountFamiliesSpec.post enc Try.prog Try.f7 false true false false) := by
  refine returnsInHanded_of_change (C := Try.checked) own started (by kernel_rfl) Try.func7
    (ChangeSpec.witness6 (enc := enc) (C := Try.checked) false ⟨#[], #[.int .i64 0, .int .i64 0, .int .i64 0], []⟩ 8 (by kernel_rfl) (by kernel_rfl) (by kernel_rfl) (by kernel_rfl)) ?_
  intro W base args ds gs before hval0 hW hcnd _
  have hval : ∀ (j : Nat) t v, Try.f7.params[j]? = some t → args[j]? = some v → Value.okWide Try.prog W .any base t v := hval0
  have hW' := hW
  obtain ⟨p, q, hA0, hV, rfl, hfz, hnd⟩ := hW
  have hA : DataW.TrodAll enc Try.prog W 0 (fun _ => true) true Try.f7.params.toList args.toList ds p := hA0
  rw [Try.params7] at hA hval
  have hkeep := hA
  obtain ⟨v0, vs0, d0, ds0, p0, q0, hargs, rfl, rfl, h0, r0⟩ := trodAll_cons hA
  obtain ⟨v1, vs1, d1, ds1, p1, q1, rfl, rfl, rfl, h1, r1⟩ := trodAll_cons r0
  obtain ⟨v2, vs2, d2, ds2, p2, q2, rfl, rfl, rfl, h2, r2⟩ := trodAll_cons r1
  obtain ⟨rfl, rfl, rfl⟩ := trodAll_nil r2
  obtain rfl : args = #[v0, v1, v2] := by cases args; simp_all
  obtain ⟨rfl, rfl⟩ := trodVars_none hV
  obtain ⟨a0, rfl, rfl, rfl, w00⟩ := open_int Try.underlying2 (hval 0 2 v0 rfl rfl) h0
  have w0 := I64.of w00
  obtain ⟨a1, rfl, rfl, rfl, w10⟩ := open_int Try.underlying2 (hval 1 2 v1 rfl rfl) h1
  have w1 := I64.of w10
  obtain ⟨a2, rfl, rfl, rfl, w20⟩ := open_int Try.underlying2 (hval 2 2 v2 rfl rfl) h2
  have w2 := I64.of w20
  refine (lawCountFamilies W a0 w0 a1 w1 a2 w2).calls.mono fun e W' ⟨r, he, hr, hg⟩ => ?_
  subst hr
  subst he
  exact ⟨_, rfl, _, _, _, [] ++ [], _, [], hW', trodAll_cons_mk (shut_bool Try.underlying4 _) trodAll_mk0, trodAll_ext laidOut (by kernel_rfl) hkeep hg (fun x hx => hW'.lt x (List.mem_append_left _ hx)), rfl, hg.frame _, fun h => by cases h⟩
theorem over : Rows.fnExactCountFamiliesRow.holds Try.pinned (OpenSpec.ofChange Rows.fnExactCountFamiliesSpec) :=
  OpenClaim.holds_of_wide 7 Try.f7 rfl rfl rfl rfl rfl rfl rfl ⟨rfl, rfl, rfl, rfl, rfl⟩ rfl rfl rfl rfl rfl (by kernel_rfl) Try.func7 (by kernel_rfl)
    (of_decide_eq_true (by kernel_rfl)) (by unfold Func.isWrapper; first | (rw [if_pos (by decide +kernel)]; kernel_rfl) | (rw [if_neg (by decide +kernel)]; exact ⟨rfl, rfl⟩))
    (fun os started H enc _ => lifted os started H enc)
theorem proved : Rows.FnExactCountFamiliesSaid := over
end fnExactCountFamilies
#print axioms fnExactCountFamilies.proved
end Go.Proofs.Ytfpignajpihgnaa
