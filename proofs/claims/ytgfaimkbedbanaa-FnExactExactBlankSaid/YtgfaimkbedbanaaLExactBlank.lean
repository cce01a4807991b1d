/-
  The program's ExactBlank returns what the reference's ExactBlank returns, for all arguments; the arguments read behind the call as before it. No condition.
-/
import Derived.Test.YtgfaimkbedbanaaFKey4
import Derived.Test.YtgfaimkbedbanaaLift
import Derived.Test.YtgfaimkbedbanaaRows
namespace Go.Proofs.Ytgfaimkbedbanaa
open B Go.RowKit

theorem lawExactBlank (w : World) (v0 : Value) (xs0 : List Int) (hs0 : SI w v0 xs0) (_ : ∀ x ∈ xs0, I64 x) (v1 : Value) (xs1 : List Int) (hs1 : SI w v1 xs1) (_ : ∀ x ∈ xs1, I64 x) :
    Does Try.prog 10 #[v0, v1] w (fun r w' => r = .bool true ∧ Ext w w') := by
  refine enter Try.func10 rfl 53 Try.ntmps10 rfl (by kernel_rfl) ?_
  refine CW.seq ?_
  refine CW.region ?_
  refine RL.y rfl (y_asg rfl) ?_
  refine RL.nil ?_
  refine Fin.next ?_
  refine CW.seq ?_
  refine CW.seq ?_
  refine CW.region ?_
  refine RL.y rfl (y_mov (by conv => lhs; whnf)) ?_
  refine RL.y rfl (y_len sT32 hs0 (ints_len _) rfl) ?_
  refine RL.y rfl (y_gt rfl rfl) ?_
  refine RL.nil ?_
  refine Fin.next ?_
  refine CW.cond rfl rfl (fun hbig1 => ?_) (fun hbig1 => ?_)
  · with_reducible first | (replace hbig1 := deNF hbig1) | (replace hbig1 := of_decide_eq_true hbig1) | (replace hbig1 := of_decide_eq_false hbig1) | (replace hbig1 := deNT hbig1) | (replace hbig1 := deNN hbig1) | (replace hbig1 := bnT hbig1) | (replace hbig1 := bnF hbig1) | skip
    refine CW.seq ?_
    refine CW.region ?_
    refine RL.y rfl (y_asg rfl) ?_
    refine RL.nil ?_
    refine Fin.next ?_
    refine CW.ret ?_
    refine Fin.thenRet ?_
    refine Fin.ret1 rfl (by conv => lhs; whnf) ?_
    exact ⟨_, rfl, rfl, (Ext.refl w)⟩
  · with_reducible first | (replace hbig1 := deNF hbig1) | (replace hbig1 := of_decide_eq_true hbig1) | (replace hbig1 := of_decide_eq_false hbig1) | (replace hbig1 := deNT hbig1) | (replace hbig1 := deNN hbig1) | (replace hbig1 := bnT hbig1) | (replace hbig1 := bnF hbig1) | skip
    refine CW.skip ?_
    refine Fin.next ?_
    refine CW.seq ?_
    refine CW.seq ?_
    refine CW.region ?_
    refine RL.y rfl (y_mov (by conv => lhs; whnf)) ?_
    refine RL.y rfl (y_len sT32 hs1 (ints_len _) rfl) ?_
    refine RL.y rfl (y_gt rfl rfl) ?_
    refine RL.nil ?_
    refine Fin.next ?_
    refine CW.cond rfl rfl (fun hbig2 => ?_) (fun hbig2 => ?_)
    · with_reducible first | (replace hbig2 := deNF hbig2) | (replace hbig2 := of_decide_eq_true hbig2) | (replace hbig2 := of_decide_eq_false hbig2) | (replace hbig2 := deNT hbig2) | (replace hbig2 := deNN hbig2) | (replace hbig2 := bnT hbig2) | (replace hbig2 := bnF hbig2) | skip
      refine CW.seq ?_
      refine CW.region ?_
      refine RL.y rfl (y_asg rfl) ?_
      refine RL.nil ?_
      refine Fin.next ?_
      refine CW.ret ?_
      refine Fin.thenRet ?_
      refine Fin.ret1 rfl (by conv => lhs; whnf) ?_
      exact ⟨_, rfl, rfl, (Ext.refl w)⟩
    · with_reducible first | (replace hbig2 := deNF hbig2) | (replace hbig2 := of_decide_eq_true hbig2) | (replace hbig2 := of_decide_eq_false hbig2) | (replace hbig2 := deNT hbig2) | (replace hbig2 := deNN hbig2) | (replace hbig2 := bnT hbig2) | (replace hbig2 := bnF hbig2) | skip
      refine CW.skip ?_
      refine Fin.next ?_
      refine CW.seq ?_
      refine CW.region ?_
      refine RL.y rfl (y_mov (by conv => lhs; whnf)) ?_
      refine RL.call rfl (toInt64S_any (hs0.ext (Ext.refl w)) (by omega)) ?_
      rintro v w1 ⟨ho1x0, hX1, _⟩
      have hsz1 := hX1.size
      have hE1 := hX1
      replace ho1x0 := OU.of ho1x0
      refine RL.y rfl (y_mov (by conv => lhs; whnf)) ?_
      refine RL.call rfl (toInt64S_any (hs1.ext hE1) (by omega)) ?_
      rintro v w2 ⟨ho2x0, hX2, _⟩
      have hsz2 := hX2.size
      replace ho1x0 := ho1x0.ext hX2
      have hE2 := hE1.trans hX2
      replace ho2x0 := OU.of ho2x0
      refine RL.call rfl (specExactBlank_any ho1x0.sv ho2x0.sv) ?_
      rintro r w3 ⟨rfl, hX3⟩
      have hsz3 := hX3.size
      replace ho1x0 := ho1x0.ext hX3
      replace ho2x0 := ho2x0.ext hX3
      have hE3 := hE2.trans hX3
      refine RL.y rfl (y_mov (by conv => lhs; whnf)) ?_
      refine RL.y rfl (y_ext0 rfl) ?_
      refine RL.y rfl (y_ext1 rfl) ?_
      refine RL.y rfl (y_asg (v := .int _ _) rfl) ?_
      refine RL.y rfl (y_asg (v := .int _ _) rfl) ?_
      refine RL.nil ?_
      refine Fin.next ?_
      refine CW.seq ?_
      refine CW.region ?_
      refine RL.y rfl (y_mov (by conv => lhs; whnf)) ?_
      refine RL.call rfl (toInt64S_any (hs0.ext hE3) (by omega)) ?_
      rintro v w4 ⟨ho4x0, hX4, _⟩
      have hsz4 := hX4.size
      replace ho1x0 := ho1x0.ext hX4
      replace ho2x0 := ho2x0.ext hX4
      have hE4 := hE3.trans hX4
      replace ho4x0 := OU.of ho4x0
      refine RL.y rfl (y_asg (by conv => lhs; whnf)) ?_
      refine RL.nil ?_
      refine Fin.next ?_
      refine CW.seq ?_
      refine CW.region ?_
      refine RL.y rfl (y_mov (by conv => lhs; whnf)) ?_
      refine RL.call rfl (toInt64S_any (hs1.ext hE4) (by omega)) ?_
      rintro v w5 ⟨ho5x0, hX5, _⟩
      have hsz5 := hX5.size
      replace ho1x0 := ho1x0.ext hX5
      replace ho2x0 := ho2x0.ext hX5
      replace ho4x0 := ho4x0.ext hX5
      have hE5 := hE4.trans hX5
      replace ho5x0 := OU.of ho5x0
      refine RL.y rfl (y_asg (by conv => lhs; whnf)) ?_
      refine RL.nil ?_
      refine Fin.next ?_
      refine CW.seq ?_
      refine CW.region ?_
      refine RL.y rfl (y_mov (by conv => lhs; whnf)) ?_
      refine RL.y rfl (y_mov (by conv => lhs; whnf)) ?_
      refine RL.call rfl (implExactBlank_any ho4x0.sv ho5x0.sv) ?_
      rintro r w6 ⟨rfl, rfl⟩
      refine RL.y rfl (y_mov (by conv => lhs; whnf)) ?_
      refine RL.y rfl (y_ext0 rfl) ?_
      refine RL.y rfl (y_ext1 rfl) ?_
      refine RL.y rfl (y_asg (v := .int _ _) rfl) ?_
      refine RL.y rfl (y_asg (v := .int _ _) rfl) ?_
      refine RL.nil ?_
      refine Fin.next ?_
      refine CW.seq ?_
      refine CW.seq ?_
      refine CW.region ?_
      refine RL.y rfl (y_mov (v := .int _ _) rfl) ?_
      refine RL.y rfl (y_mov (v := .int _ _) rfl) ?_
      refine RL.y rfl (y_ne rfl rfl) ?_
      refine RL.y rfl (y_mov (v := .bool _) rfl) ?_
      refine RL.force (t := 38) false rfl rfl (by first | (simp; done) | exact decide_eq_false (by omega)) ?_
      refine RL.take (t := 38) rfl rfl rfl ?_
      refine RL.y rfl (y_mov (v := .int _ _) rfl) ?_
      refine RL.take (t := 38) rfl rfl rfl ?_
      refine RL.y rfl (y_mov (v := .int _ _) rfl) ?_
      refine RL.take (t := 38) rfl rfl rfl ?_
      refine RL.y rfl (y_ne rfl rfl) ?_
      refine RL.y rfl (y_pickF (v := .bool _) rfl rfl) ?_
      refine RL.nil ?_
      refine Fin.next ?_
      refine CW.condF rfl (by first | (simp; done) | exact decide_eq_false (by omega)) ?_
      refine CW.skip ?_
      refine Fin.next ?_
      refine CW.seq ?_
      refine CW.seq ?_
      refine CW.region ?_
      refine RL.y rfl (y_mov (by conv => lhs; whnf)) ?_
      refine RL.y rfl (y_mov (by conv => lhs; whnf)) ?_
      refine RL.call rfl (toInt64S_any (hs0.ext hE5) (by omega)) ?_
      rintro v w7 ⟨ho7x0, hX7, _⟩
      have hsz7 := hX7.size
      replace ho1x0 := ho1x0.ext hX7
      replace ho2x0 := ho2x0.ext hX7
      replace ho4x0 := ho4x0.ext hX7
      replace ho5x0 := ho5x0.ext hX7
      have hE7 := hE5.trans hX7
      replace ho7x0 := OU.of ho7x0
      refine RL.call rfl (eqInt64S_any ho4x0.sv ho7x0.sv) ?_
      rintro r w8 ⟨rfl, hX8⟩
      have hsz8 := hX8.size
      replace ho1x0 := ho1x0.ext hX8
      replace ho2x0 := ho2x0.ext hX8
      replace ho4x0 := ho4x0.ext hX8
      replace ho5x0 := ho5x0.ext hX8
      replace ho7x0 := ho7x0.ext hX8
      have hE8 := hE7.trans hX8
      refine RL.y rfl (y_not rfl) ?_
      refine RL.nil ?_
      refine Fin.next ?_
      refine CW.condF rfl (by first | (simp; done) | exact decide_eq_false (by omega)) ?_
      refine CW.skip ?_
      refine Fin.next ?_
      refine CW.seq ?_
      refine CW.seq ?_
      refine CW.region ?_
      refine RL.y rfl (y_mov (by conv => lhs; whnf)) ?_
      refine RL.y rfl (y_mov (by conv => lhs; whnf)) ?_
      refine RL.call rfl (toInt64S_any (hs1.ext hE8) (by omega)) ?_
      rintro v w9 ⟨ho9x0, hX9, _⟩
      have hsz9 := hX9.size
      replace ho1x0 := ho1x0.ext hX9
      replace ho2x0 := ho2x0.ext hX9
      replace ho4x0 := ho4x0.ext hX9
      replace ho5x0 := ho5x0.ext hX9
      replace ho7x0 := ho7x0.ext hX9
      have hE9 := hE8.trans hX9
      replace ho9x0 := OU.of ho9x0
      refine RL.call rfl (eqInt64S_any ho5x0.sv ho9x0.sv) ?_
      rintro r w10 ⟨rfl, hX10⟩
      have hsz10 := hX10.size
      replace ho1x0 := ho1x0.ext hX10
      replace ho2x0 := ho2x0.ext hX10
      replace ho4x0 := ho4x0.ext hX10
      replace ho5x0 := ho5x0.ext hX10
      replace ho7x0 := ho7x0.ext hX10
      replace ho9x0 := ho9x0.ext hX10
      have hE10 := hE9.trans hX10
      refine RL.y rfl (y_not rfl) ?_
      refine RL.nil ?_
      refine Fin.next ?_
      refine CW.condF rfl (by first | (simp; done) | exact decide_eq_false (by omega)) ?_
      refine CW.skip ?_
      refine Fin.next ?_
      refine CW.seq ?_
      refine CW.region ?_
      refine RL.y rfl (y_asg rfl) ?_
      refine RL.nil ?_
      refine Fin.next ?_
      refine CW.ret ?_
      refine Fin.ret1 rfl (by conv => lhs; whnf) ?_
      exact ⟨_, rfl, rfl, hE10⟩
namespace fnExactExactBlank
open Go.ChangeShapes Go.WideShapes Go.ChangeAt Go.RowKit
set_option linter.unusedVariables false
theorem own : ownKnob Try.prog.godebug = none := by kernel_rfl
theorem laidOut : laidOutB Try.prog = true := by kernel_rfl
set_option maxRecDepth 100000 in
theorem lifted (os : Os) (started : os.Started) (H : Type) (enc : TypeId × Value → H) :
    ReturnsInHanded {} Try.checked os 10 .any (Rows.fnExactExactBlankSpec.pre6 enc Try.prog Try.f10 Rows.fnExactExactBlankRow.domain false) (Rows.fnExactExactBlankSpec.post enc Try.prog Try.f10 false true false false) := by
  refine returnsInHanded_of_change (C := Try.checked) own started (by kernel_rfl) Try.func10
    (ChangeSpec.witness6 (enc := enc) (C := Try.checked) false ⟨#[], #[.slice none 0 0, .slice none 0 0], []⟩ 8 (by kernel_rfl) (by kernel_rfl) (by kernel_rfl) (by kernel_rfl)) ?_
  intro W base args ds gs before hval0 hW hcnd _
  have hval : ∀ (j : Nat) t v, Try.f10.params[j]? = some t → args[j]? = some v → Value.okWide Try.prog W .any base t v := hval0
  have hW' := hW
  obtain ⟨p, q, hA0, hV, rfl, hfz, hnd⟩ := hW
  have hA : DataW.TrodAll enc Try.prog W 0 (fun _ => true) true Try.f10.params.toList args.toList ds p := hA0
  rw [Try.params10] at hA hval
  have hkeep := hA
  obtain ⟨v0, vs0, d0, ds0, p0, q0, hargs, rfl, rfl, h0, r0⟩ := trodAll_cons hA
  obtain ⟨v1, vs1, d1, ds1, p1, q1, rfl, rfl, rfl, h1, r1⟩ := trodAll_cons r0
  obtain ⟨rfl, rfl, rfl⟩ := trodAll_nil r1
  obtain rfl : args = #[v0, v1] := by cases args; simp_all
  obtain ⟨rfl, rfl⟩ := trodVars_none hV
  obtain ⟨xs0, hs0, wf0⟩ := open_SI Try.underlying32 Try.underlying2 (by kernel_rfl) (hval 0 32 v0 rfl rfl) h0
  obtain ⟨xs1, hs1, wf1⟩ := open_SI Try.underlying32 Try.underlying2 (by kernel_rfl) (hval 1 32 v1 rfl rfl) h1
  refine (lawExactBlank W v0 xs0 hs0 wf0 v1 xs1 hs1 wf1).calls.mono fun e W' ⟨r, he, hr, hg⟩ => ?_
  subst hr
  subst he
  exact ⟨_, rfl, _, _, _, [] ++ [], _, [], hW', trodAll_cons_mk (shut_bool Try.underlying4 _) trodAll_mk0, trodAll_ext laidOut (by kernel_rfl) hkeep hg (fun x hx => hW'.lt x (List.mem_append_left _ hx)), rfl, hg.frame _, fun h => by cases h⟩
theorem over : Rows.fnExactExactBlankRow.holds Try.pinned (OpenSpec.ofChange Rows.fnExactExactBlankSpec) :=
  OpenClaim.holds_of_wide 10 Try.f10 rfl rfl rfl rfl rfl rfl rfl ⟨rfl, rfl, rfl, rfl, rfl⟩ rfl rfl rfl rfl rfl (by kernel_rfl) Try.func10 (by kernel_rfl)
    (of_decide_eq_true (by kernel_rfl)) (by unfold Func.isWrapper; first | (rw [if_pos (by decide +kernel)]; kernel_rfl) | (rw [if_neg (by decide +kernel)]; exact ⟨rfl, rfl⟩))
    (fun os started H enc _ => lifted os started H enc)
theorem proved : Rows.FnExactExactBlankSaid := over
end fnExactExactBlank
#print axioms fnExactExactBlank.proved
end Go.Proofs.Ytgfaimkbedbanaa
