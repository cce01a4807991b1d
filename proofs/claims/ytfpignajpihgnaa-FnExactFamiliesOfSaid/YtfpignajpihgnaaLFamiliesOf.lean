/-
  The program's FamiliesOf returns what the reference's FamiliesOf returns, for all arguments; the arguments read behind the call as before it. No condition.
-/
import Derived.Test.YtfpignajpihgnaaFSide3
import Derived.Test.YtfpignajpihgnaaLift
import Derived.Test.YtfpignajpihgnaaRows
namespace Go.Proofs.Ytfpignajpihgnaa
open B Go.RowKit

theorem lawFamiliesOf (w : World) (a0 : Int) (_ : I64 a0) (a1 : Int) (_ : I64 a1) (a2 : Int) (_ : I64 a2) (a3 : Int) (_ : I64 a3) :
    Does Try.prog 9 #[.int .i64 a0, .int .i64 a1, .int .i64 a2, .int .i64 a3] w (fun r w' => r = .bool true ∧ Ext w w') := by
  have hR := fmV_tot a0 a1 a2 a3
  refine enter Try.func9 rfl 78 Try.ntmps9 rfl (by kernel_rfl) ?_
  refine CW.seq ?_
  refine CW.region ?_
  refine RL.y rfl (y_asg rfl) ?_
  refine RL.nil ?_
  refine Fin.next ?_
  refine CW.seq ?_
  refine CW.region ?_
  refine RL.y rfl (y_mov (v := .int _ _) rfl) ?_
  refine RL.y rfl (y_mov (v := .int _ _) rfl) ?_
  refine RL.y rfl (y_mov (v := .int _ _) rfl) ?_
  refine RL.y rfl (y_mov (v := .int _ _) rfl) ?_
  refine RL.call rfl (specFamiliesOf_any) ?_
  rintro r w1 ⟨v11, rfl, ho1x1, hX1⟩
  have hsz1 := hX1.size
  have hE1 := hX1
  replace ho1x1 := RuSS.of ho1x1
  refine RL.y rfl (y_mov (by conv => lhs; whnf)) ?_
  refine RL.y rfl (y_ext0 rfl) ?_
  refine RL.y rfl (y_ext1 rfl) ?_
  refine RL.y rfl (y_asg (by conv => lhs; whnf)) ?_
  refine RL.y rfl (y_asg (v := .int _ _) rfl) ?_
  refine RL.nil ?_
  refine Fin.next ?_
  refine CW.seq ?_
  refine CW.region ?_
  refine RL.y rfl (y_mov (v := .int _ _) rfl) ?_
  refine RL.y rfl (y_mov (v := .int _ _) rfl) ?_
  refine RL.y rfl (y_mov (v := .int _ _) rfl) ?_
  refine RL.y rfl (y_mov (v := .int _ _) rfl) ?_
  refine RL.call rfl (implFamiliesOf_any) ?_
  rintro r w2 ⟨v12, rfl, ho2x1, hX2⟩
  have hsz2 := hX2.size
  replace ho1x1 := ho1x1.ext hX2
  have hE2 := hE1.trans hX2
  replace ho2x1 := OwSS.of ho2x1
  refine RL.y rfl (y_mov (by conv => lhs; whnf)) ?_
  refine RL.y rfl (y_ext0 rfl) ?_
  refine RL.y rfl (y_ext1 rfl) ?_
  refine RL.y rfl (y_asg (by conv => lhs; whnf)) ?_
  refine RL.y rfl (y_asg (v := .int _ _) rfl) ?_
  refine RL.nil ?_
  refine Fin.next ?_
  refine CW.seq ?_
  refine CW.seq ?_
  refine CW.region ?_
  refine RL.y rfl (y_mov (by conv => lhs; whnf)) ?_
  refine RL.y rfl (y_mov (by conv => lhs; whnf)) ?_
  refine RL.call rfl (eqInt64SS_any ho2x1.rd ho1x1.rd) ?_
  rintro r w3 ⟨rfl, hX3⟩
  have hsz3 := hX3.size
  replace ho1x1 := ho1x1.ext hX3
  replace ho2x1 := ho2x1.ext hX3
  have hE3 := hE2.trans hX3
  refine RL.y rfl (y_not rfl) ?_
  refine RL.y rfl (y_mov (v := .bool _) rfl) ?_
  refine RL.force (t := 37) false rfl rfl (by first | (simp; done) | exact decide_eq_false (by omega)) ?_
  refine RL.take (t := 37) rfl rfl rfl ?_
  refine RL.y rfl (y_mov (v := .int _ _) rfl) ?_
  refine RL.take (t := 37) rfl rfl rfl ?_
  refine RL.y rfl (y_mov (v := .int _ _) rfl) ?_
  refine RL.take (t := 37) rfl rfl rfl ?_
  refine RL.y rfl (y_ne rfl rfl) ?_
  refine RL.y rfl (y_pickF (v := .bool _) rfl rfl) ?_
  refine RL.nil ?_
  refine Fin.next ?_
  refine CW.condF rfl (by first | (simp; done) | exact decide_eq_false (by omega)) ?_
  refine CW.skip ?_
  refine Fin.next ?_
  refine CW.seq ?_
  refine CW.region ?_
  refine RL.y rfl (y_asg rfl) ?_
  refine RL.nil ?_
  refine Fin.next ?_
  refine CW.seq ?_
  refine CW.region ?_
  refine RL.y rfl (y_mov (by conv => lhs; whnf)) ?_
  refine RL.y rfl (y_mov (v := .int _ _) rfl) ?_
  refine RL.call rfl (markSS_own ho2x1 (by omega) (by omega)) ?_
  rintro r w4 ⟨xs4, k4, rfl, ho4, hh4, hk4, hl4, hM4⟩
  replace ho1x1 := ho1x1.mod hM4 (by omega)
  have hE4 := Ext.then_mod hE3 hM4 (by omega)
  clear ho2x1
  refine RL.y rfl (y_asg (v := .int _ _) rfl) ?_
  refine RL.nil ?_
  refine Fin.next ?_
  refine CW.seq ?_
  refine CW.region ?_
  refine RL.y rfl (y_asg rfl) ?_
  refine RL.nil ?_
  refine Fin.next ?_
  refine CW.seq ?_
  refine CW.region ?_
  refine RL.y rfl (y_mov (by conv => lhs; whnf)) ?_
  refine RL.y rfl (y_mov (v := .int _ _) rfl) ?_
  refine RL.call rfl (heldInt64SS_any ho4.rd (by omega) (by omega)) ?_
  rintro r w5 ⟨rfl, hX5⟩
  have hsz5 := hX5.size
  replace ho1x1 := ho1x1.ext hX5
  replace ho4 := ho4.ext hX5
  have hE5 := hE4.trans hX5
  refine RL.y rfl (y_asg (v := .int _ _) rfl) ?_
  refine RL.nil ?_
  refine Fin.next ?_
  refine CW.seq ?_
  refine CW.seq ?_
  refine CW.region ?_
  refine RL.y rfl (y_mov (v := .int _ _) rfl) ?_
  refine RL.y rfl (y_lt rfl rfl) ?_
  refine RL.nil ?_
  refine Fin.next ?_
  refine CW.condF rfl (by first | (simp; done) | exact decide_eq_false (by omega)) ?_
  refine CW.skip ?_
  refine Fin.next ?_
  refine CW.seq ?_
  refine CW.seq ?_
  refine CW.region ?_
  refine RL.y rfl (y_mov (v := .int _ _) rfl) ?_
  refine RL.y rfl (y_mov (v := .int _ _) rfl) ?_
  refine RL.y rfl (y_ne rfl rfl) ?_
  refine RL.nil ?_
  refine Fin.next ?_
  refine CW.condF rfl (by first | (simp; done) | exact decide_eq_false (by omega)) ?_
  refine CW.skip ?_
  refine Fin.next ?_
  refine CW.seq ?_
  refine CW.region ?_
  refine RL.y rfl (y_mov (v := .int _ _) rfl) ?_
  refine RL.y rfl (y_mov (v := .int _ _) rfl) ?_
  refine RL.y rfl (y_mov (v := .int _ _) rfl) ?_
  refine RL.y rfl (y_mov (v := .int _ _) rfl) ?_
  refine RL.call rfl (implFamiliesOf_any) ?_
  rintro r w6 ⟨v16, rfl, ho6x1, hX6⟩
  have hsz6 := hX6.size
  replace ho1x1 := ho1x1.ext hX6
  replace ho4 := ho4.ext hX6
  have hE6 := hE5.trans hX6
  replace ho6x1 := OwSS.of ho6x1
  refine RL.y rfl (y_mov (by conv => lhs; whnf)) ?_
  refine RL.y rfl (y_ext0 rfl) ?_
  refine RL.y rfl (y_ext1 rfl) ?_
  refine RL.y rfl (y_asg (by conv => lhs; whnf)) ?_
  refine RL.y rfl (y_asg (v := .int _ _) rfl) ?_
  refine RL.nil ?_
  refine Fin.next ?_
  refine CW.seq ?_
  refine CW.seq ?_
  refine CW.region ?_
  refine RL.y rfl (y_mov (by conv => lhs; whnf)) ?_
  refine RL.y rfl (y_mov (by conv => lhs; whnf)) ?_
  refine RL.call rfl (eqInt64SS_any ho6x1.rd ho1x1.rd) ?_
  rintro r w7 ⟨rfl, hX7⟩
  have hsz7 := hX7.size
  replace ho1x1 := ho1x1.ext hX7
  replace ho4 := ho4.ext hX7
  replace ho6x1 := ho6x1.ext hX7
  have hE7 := hE6.trans hX7
  refine RL.y rfl (y_not rfl) ?_
  refine RL.y rfl (y_mov (v := .bool _) rfl) ?_
  refine RL.force (t := 65) false rfl rfl (by first | (simp; done) | exact decide_eq_false (by omega)) ?_
  refine RL.take (t := 65) rfl rfl rfl ?_
  refine RL.y rfl (y_mov (v := .int _ _) rfl) ?_
  refine RL.take (t := 65) rfl rfl rfl ?_
  refine RL.y rfl (y_mov (v := .int _ _) rfl) ?_
  refine RL.take (t := 65) rfl rfl rfl ?_
  refine RL.y rfl (y_ne rfl rfl) ?_
  refine RL.y rfl (y_pickF (v := .bool _) rfl rfl) ?_
  refine RL.nil ?_
  refine Fin.next ?_
  refine CW.condF rfl (by first | (simp; done) | exact decide_eq_false (by omega)) ?_
  refine CW.skip ?_
  refine Fin.next ?_
  refine CW.seq ?_
  refine CW.region ?_
  refine RL.y rfl (y_asg rfl) ?_
  refine RL.nil ?_
  refine Fin.next ?_
  refine CW.seq ?_
  refine CW.region ?_
  refine RL.y rfl (y_mov (by conv => lhs; whnf)) ?_
  refine RL.y rfl (y_mov (v := .int _ _) rfl) ?_
  refine RL.call rfl (heldInt64SS_any ho4.rd (by omega) (by omega)) ?_
  rintro r w8 ⟨rfl, hX8⟩
  have hsz8 := hX8.size
  replace ho1x1 := ho1x1.ext hX8
  replace ho4 := ho4.ext hX8
  replace ho6x1 := ho6x1.ext hX8
  have hE8 := hE7.trans hX8
  refine RL.y rfl (y_asg (v := .int _ _) rfl) ?_
  refine RL.nil ?_
  refine Fin.next ?_
  refine CW.seq ?_
  refine CW.seq ?_
  refine CW.region ?_
  refine RL.y rfl (y_mov (v := .int _ _) rfl) ?_
  refine RL.y rfl (y_lt rfl rfl) ?_
  refine RL.nil ?_
  refine Fin.next ?_
  refine CW.condF rfl (by first | (simp; done) | exact decide_eq_false (by omega)) ?_
  refine CW.skip ?_
  refine Fin.next ?_
  refine CW.seq ?_
  refine CW.seq ?_
  refine CW.region ?_
  refine RL.y rfl (y_mov (v := .int _ _) rfl) ?_
  refine RL.y rfl (y_mov (v := .int _ _) rfl) ?_
  refine RL.y rfl (y_ne rfl rfl) ?_
  refine RL.nil ?_
  refine Fin.next ?_
  refine CW.condF rfl (by first | (simp; done) | exact decide_eq_false (by omega)) ?_
  refine CW.skip ?_
  refine Fin.next ?_
  refine CW.seq ?_
  refine CW.region ?_
  refine RL.y rfl (y_asg rfl) ?_
  refine RL.nil ?_
  refine Fin.next ?_
  refine CW.ret ?_
  refine Fin.ret1 rfl (by conv => lhs; whnf) ?_
  exact ⟨_, rfl, rfl, hE8⟩
namespace fnExactFamiliesOf
open Go.ChangeShapes Go.WideShapes Go.ChangeAt Go.RowKit
set_option linter.unusedVariables false
theorem own : ownKnob Try.prog.godebug = none := by kernel_rfl
theorem laidOut : laidOutB Try.prog = true := by kernel_rfl
set_option maxRecDepth 100000 in
theorem lifted (os : Os) (started : os.Started) (H : Type) (enc : TypeId × Value → H) :
    ReturnsInHanded {} Try.checked os 9 .any (Rows.fnExactFamiliesOfSpec.pre6 enc Try.prog Try.f9 Rows.fnExactFamiliesOfRow.domain false) (Rows.fnExactFamiliesOfSpec.post enc Try.prog Try.f9 false true false false) := by
  refine returnsInHanded_of_change (C := Try.checked) own started (by kernel_rfl) Try.func9
    (ChangeSpec.witness6 (enc := enc) (C := Try.checked) false ⟨#[], #[.int .i64 0, .int .i64 0, .int .i64 0, .int .i64 0], []⟩ 8 (by kernel_rfl) (by kernel_rfl) (by kernel_rfl) (by kernel_rfl)) ?_
  intro W base args ds gs before hval0 hW hcnd _
  have hval : ∀ (j : Nat) t v, Try.f9.params[j]? = some t → args[j]? = some v → Value.okWide Try.prog W .any base t v := hval0
  have hW' := hW
  obtain ⟨p, q, hA0, hV, rfl, hfz, hnd⟩ := hW
  have hA : DataW.TrodAll enc Try.prog W 0 (fun _ => true) true Try.f9.params.toList args.toList ds p := hA0
  rw [Try.params9] at hA hval
  have hkeep := hA
  obtain ⟨v0, vs0, d0, ds0, p0, q0, hargs, rfl, rfl, h0, r0⟩ := trodAll_cons hA
  obtain ⟨v1, vs1, d1, ds1, p1, q1, rfl, rfl, rfl, h1, r1⟩ := trodAll_cons r0
  obtain ⟨v2, vs2, d2, ds2, p2, q2, rfl, rfl, rfl, h2, r2⟩ := trodAll_cons r1
  obtain ⟨v3, vs3, d3, ds3, p3, q3, rfl, rfl, rfl, h3, r3⟩ := trodAll_cons r2
  obtain ⟨rfl, rfl, rfl⟩ := trodAll_nil r3
  obtain rfl : args = #[v0, v1, v2, v3] := by cases args; simp_all
  obtain ⟨rfl, rfl⟩ := trodVars_none hV
  obtain ⟨a0, rfl, rfl, rfl, w00⟩ := open_int Try.underlying2 (hval 0 2 v0 rfl rfl) h0
  have w0 := I64.of w00
  obtain ⟨a1, rfl, rfl, rfl, w10⟩ := open_int Try.underlying2 (hval 1 2 v1 rfl rfl) h1
  have w1 := I64.of w10
  obtain ⟨a2, rfl, rfl, rfl, w20⟩ := open_int Try.underlying2 (hval 2 2 v2 rfl rfl) h2
  have w2 := I64.of w20
  obtain ⟨a3, rfl, rfl, rfl, w30⟩ := open_int Try.underlying2 (hval 3 2 v3 rfl rfl) h3
  have w3 := I64.of w30
  refine (lawFamiliesOf W a0 w0 a1 w1 a2 w2 a3 w3).calls.mono fun e W' ⟨r, he, hr, hg⟩ => ?_
  subst hr
  subst he
  exact ⟨_, rfl, _, _, _, [] ++ [], _, [], hW', trodAll_cons_mk (shut_bool Try.underlying4 _) trodAll_mk0, trodAll_ext laidOut (by kernel_rfl) hkeep hg (fun x hx => hW'.lt x (List.mem_append_left _ hx)), rfl, hg.frame _, fun h => by cases h⟩
theorem over : Rows.fnExactFamiliesOfRow.holds Try.pinned (OpenSpec.ofChange Rows.fnExactFamiliesOfSpec) :=
  OpenClaim.holds_of_wide 9 Try.f9 rfl rfl rfl rfl rfl rfl rfl ⟨rfl, rfl, rfl, rfl, rfl⟩ rfl rfl rfl rfl rfl (by kernel_rfl) Try.func9 (by kernel_rfl)
    (of_decide_eq_true (by kernel_rfl)) (by unfold Func.isWrapper; first | (rw [if_pos (by decide +kernel)]; kernel_rfl) | (rw [if_neg (by decide +kernel)]; exact ⟨rfl, rfl⟩))
    (fun os started H enc _ => lifted os started H enc)
theorem proved : Rows.FnExactFamiliesOfSaid := over
end fnExactFamiliesOf
#print axioms fnExactFamiliesOf.proved
end Go.Proofs.Ytfpignajpihgnaa
