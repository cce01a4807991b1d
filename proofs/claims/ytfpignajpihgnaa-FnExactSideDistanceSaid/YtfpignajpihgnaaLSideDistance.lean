/-
  The program's SideDistance returns what the reference's SideDistance returns, for all arguments; the arguments read behind the call as before it. No condition.
-/
import Derived.Test.YtfpignajpihgnaaFSide1
import Derived.Test.YtfpignajpihgnaaLift
import Derived.Test.YtfpignajpihgnaaRows
namespace Go.Proofs.Ytfpignajpihgnaa
open B Go.RowKit

theorem lawSideDistance (w : World) (a0 : Int) (_ : I64 a0) (a1 : Int) (_ : I64 a1) (v2 : Value) (xs2 : List Int) (hs2 : SI w v2 xs2) (_ : ∀ x ∈ xs2, I64 x) (v3 : Value) (xs3 : List Int) (hs3 : SI w v3 xs3) (_ : ∀ x ∈ xs3, I64 x) :
    Does Try.prog 6 #[.int .i64 a0, .int .i64 a1, v2, v3] w (fun r w' => r = .bool true ∧ Ext w w') := by
  refine enter Try.func6 rfl 61 Try.ntmps6 rfl (by kernel_rfl) ?_
  refine CW.seq ?_
  refine CW.region ?_
  refine RL.y rfl (y_asg rfl) ?_
  refine RL.nil ?_
  refine Fin.next ?_
  refine CW.seq ?_
  refine CW.seq ?_
  refine CW.region ?_
  refine RL.y rfl (y_mov (by conv => lhs; whnf)) ?_
  refine RL.y rfl (y_len sT25 hs2 (ints_len _) rfl) ?_
  refine RL.y rfl (y_gt rfl rfl) ?_
  refine RL.nil ?_
  refine Fin.next ?_
  refine CW.cond rfl rfl (fun hbig1 => ?_) (fun hbig1 => ?_)
  · with_reducible first | (replace hbig1 := deNF hbig1) | (replace hbig1 := of_decide_eq_true hbig1) | (replace hbig1 := of_decide_eq_false hbig1) | (replace hbig1 := deNT hbig1) | (replace hbig1 := deNN hbig1) | (replace hbig1 := bnT hbig1) | (replace hbig1 := bnF hbig1) | skip
    refine CW.seq ?_
    refine CW.region ?_
    refine RL.y rfl (y_asg rfl) ?_
    refine RL.nil ?_
    refine Fin.next ?_
    refine CW.ret ?_
    refine Fin.thenRet ?_
    refine Fin.ret1 rfl (by conv => lhs; whnf) ?_
    exact ⟨_, rfl, rfl, (Ext.refl w)⟩
  · with_reducible first | (replace hbig1 := deNF hbig1) | (replace hbig1 := of_decide_eq_true hbig1) | (replace hbig1 := of_decide_eq_false hbig1) | (replace hbig1 := deNT hbig1) | (replace hbig1 := deNN hbig1) | (replace hbig1 := bnT hbig1) | (replace hbig1 := bnF hbig1) | skip
    refine CW.skip ?_
    refine Fin.next ?_
    refine CW.seq ?_
    refine CW.seq ?_
    refine CW.region ?_
    refine RL.y rfl (y_mov (by conv => lhs; whnf)) ?_
    refine RL.y rfl (y_len sT25 hs3 (ints_len _) rfl) ?_
    refine RL.y rfl (y_gt rfl rfl) ?_
    refine RL.nil ?_
    refine Fin.next ?_
    refine CW.cond rfl rfl (fun hbig2 => ?_) (fun hbig2 => ?_)
    · with_reducible first | (replace hbig2 := deNF hbig2) | (replace hbig2 := of_decide_eq_true hbig2) | (replace hbig2 := of_decide_eq_false hbig2) | (replace hbig2 := deNT hbig2) | (replace hbig2 := deNN hbig2) | (replace hbig2 := bnT hbig2) | (replace hbig2 := bnF hbig2) | skip
      refine CW.seq ?_
      refine CW.region ?_
      refine RL.y rfl (y_asg rfl) ?_
      refine RL.nil ?_
      refine Fin.next ?_
      refine CW.ret ?_
      refine Fin.thenRet ?_
      refine Fin.ret1 rfl (by conv => lhs; whnf) ?_
      exact ⟨_, rfl, rfl, (Ext.refl w)⟩
    · with_reducible first | (replace hbig2 := deNF hbig2) | (replace hbig2 := of_decide_eq_true hbig2) | (replace hbig2 := of_decide_eq_false hbig2) | (replace hbig2 := deNT hbig2) | (replace hbig2 := deNN hbig2) | (replace hbig2 := bnT hbig2) | (replace hbig2 := bnF hbig2) | skip
      refine CW.skip ?_
      refine Fin.next ?_
      refine CW.seq ?_
      refine CW.region ?_
      refine RL.y rfl (y_mov (v := .int _ _) rfl) ?_
      refine RL.y rfl (y_mov (v := .int _ _) rfl) ?_
      refine RL.y rfl (y_mov (by conv => lhs; whnf)) ?_
      refine RL.call rfl (toInt64S_any (hs2.ext (Ext.refl w)) (by omega)) ?_
      rintro v w1 ⟨ho1x0, hX1, _⟩
      have hsz1 := hX1.size
      have hE1 := hX1
      replace ho1x0 := OU.of ho1x0
      refine RL.y rfl (y_mov (by conv => lhs; whnf)) ?_
      refine RL.call rfl (toInt64S_any (hs3.ext hE1) (by omega)) ?_
      rintro v w2 ⟨ho2x0, hX2, _⟩
      have hsz2 := hX2.size
      replace ho1x0 := ho1x0.ext hX2
      have hE2 := hE1.trans hX2
      replace ho2x0 := OU.of ho2x0
      refine RL.call rfl (specSideDistance_any ho1x0.sv ho2x0.sv) ?_
      rintro r w3 ⟨rfl, hX3⟩
      have hsz3 := hX3.size
      replace ho1x0 := ho1x0.ext hX3
      replace ho2x0 := ho2x0.ext hX3
      have hE3 := hE2.trans hX3
      refine RL.y rfl (y_mov (by conv => lhs; whnf)) ?_
      refine RL.y rfl (y_ext0 rfl) ?_
      refine RL.y rfl (y_ext1 rfl) ?_
      refine RL.y rfl (y_asg (v := .int _ _) rfl) ?_
      refine RL.y rfl (y_asg (v := .int _ _) rfl) ?_
      refine RL.nil ?_
      refine Fin.next ?_
      refine CW.seq ?_
      refine CW.region ?_
      refine RL.y rfl (y_mov (by conv => lhs; whnf)) ?_
      refine RL.call rfl (toInt64S_any (hs2.ext hE3) (by omega)) ?_
      rintro v w4 ⟨ho4x0, hX4, _⟩
      have hsz4 := hX4.size
      replace ho1x0 := ho1x0.ext hX4
      replace ho2x0 := ho2x0.ext hX4
      have hE4 := hE3.trans hX4
      replace ho4x0 := OU.of ho4x0
      refine RL.y rfl (y_asg (by conv => lhs; whnf)) ?_
      refine RL.nil ?_
      refine Fin.next ?_
      refine CW.seq ?_
      refine CW.region ?_
      refine RL.y rfl (y_mov (by conv => lhs; whnf)) ?_
      refine RL.call rfl (toInt64S_any (hs3.ext hE4) (by omega)) ?_
      rintro v w5 ⟨ho5x0, hX5, _⟩
      have hsz5 := hX5.size
      replace ho1x0 := ho1x0.ext hX5
      replace ho2x0 := ho2x0.ext hX5
      replace ho4x0 := ho4x0.ext hX5
      have hE5 := hE4.trans hX5
      replace ho5x0 := OU.of ho5x0
      refine RL.y rfl (y_asg (by conv => lhs; whnf)) ?_
      refine RL.nil ?_
      refine Fin.next ?_
      refine CW.seq ?_
      refine CW.region ?_
      refine RL.y rfl (y_mov (v := .int _ _) rfl) ?_
      refine RL.y rfl (y_mov (v := .int _ _) rfl) ?_
      refine RL.y rfl (y_mov (by conv => lhs; whnf)) ?_
      refine RL.y rfl (y_mov (by conv => lhs; whnf)) ?_
      refine RL.call rfl (implSideDistance_any ho4x0.sv ho5x0.sv) ?_
      rintro r w6 ⟨rfl, hX6⟩
      have hsz6 := hX6.size
      replace ho1x0 := ho1x0.ext hX6
      replace ho2x0 := ho2x0.ext hX6
      replace ho4x0 := ho4x0.ext hX6
      replace ho5x0 := ho5x0.ext hX6
      have hE6 := hE5.trans hX6
      refine RL.y rfl (y_mov (by conv => lhs; whnf)) ?_
      refine RL.y rfl (y_ext0 rfl) ?_
      refine RL.y rfl (y_ext1 rfl) ?_
      refine RL.y rfl (y_asg (v := .int _ _) rfl) ?_
      refine RL.y rfl (y_asg (v := .int _ _) rfl) ?_
      refine RL.nil ?_
      refine Fin.next ?_
      refine CW.seq ?_
      refine CW.seq ?_
      refine CW.region ?_
      refine RL.y rfl (y_mov (v := .int _ _) rfl) ?_
      refine RL.y rfl (y_mov (v := .int _ _) rfl) ?_
      refine RL.y rfl (y_ne rfl rfl) ?_
      refine RL.y rfl (y_mov (v := .bool _) rfl) ?_
      refine RL.force (t := 46) false rfl rfl (by first | (simp; done) | exact decide_eq_false (by omega)) ?_
      refine RL.take (t := 46) rfl rfl rfl ?_
      refine RL.y rfl (y_mov (v := .int _ _) rfl) ?_
      refine RL.take (t := 46) rfl rfl rfl ?_
      refine RL.y rfl (y_mov (v := .int _ _) rfl) ?_
      refine RL.take (t := 46) rfl rfl rfl ?_
      refine RL.y rfl (y_ne rfl rfl) ?_
      refine RL.y rfl (y_pickF (v := .bool _) rfl rfl) ?_
      refine RL.nil ?_
      refine Fin.next ?_
      refine CW.condF rfl (by first | (simp; done) | exact decide_eq_false (by omega)) ?_
      refine CW.skip ?_
      refine Fin.next ?_
      refine CW.seq ?_
      refine CW.seq ?_
      refine CW.region ?_
      refine RL.y rfl (y_mov (by conv => lhs; whnf)) ?_
      refine RL.y rfl (y_mov (by conv => lhs; whnf)) ?_
      refine RL.call rfl (toInt64S_any (hs2.ext hE6) (by omega)) ?_
      rintro v w7 ⟨ho7x0, hX7, _⟩
      have hsz7 := hX7.size
      replace ho1x0 := ho1x0.ext hX7
      replace ho2x0 := ho2x0.ext hX7
      replace ho4x0 := ho4x0.ext hX7
      replace ho5x0 := ho5x0.ext hX7
      have hE7 := hE6.trans hX7
      replace ho7x0 := OU.of ho7x0
      refine RL.call rfl (eqInt64S_any ho4x0.sv ho7x0.sv) ?_
      rintro r w8 ⟨rfl, hX8⟩
      have hsz8 := hX8.size
      replace ho1x0 := ho1x0.ext hX8
      replace ho2x0 := ho2x0.ext hX8
      replace ho4x0 := ho4x0.ext hX8
      replace ho5x0 := ho5x0.ext hX8
      replace ho7x0 := ho7x0.ext hX8
      have hE8 := hE7.trans hX8
      refine RL.y rfl (y_not rfl) ?_
      refine RL.nil ?_
      refine Fin.next ?_
      refine CW.condF rfl (by first | (simp; done) | exact decide_eq_false (by omega)) ?_
      refine CW.skip ?_
      refine Fin.next ?_
      refine CW.seq ?_
      refine CW.seq ?_
      refine CW.region ?_
      refine RL.y rfl (y_mov (by conv => lhs; whnf)) ?_
      refine RL.y rfl (y_mov (by conv => lhs; whnf)) ?_
      refine RL.call rfl (toInt64S_any (hs3.ext hE8) (by omega)) ?_
      rintro v w9 ⟨ho9x0, hX9, _⟩
      have hsz9 := hX9.size
      replace ho1x0 := ho1x0.ext hX9
      replace ho2x0 := ho2x0.ext hX9
      replace ho4x0 := ho4x0.ext hX9
      replace ho5x0 := ho5x0.ext hX9
      replace ho7x0 := ho7x0.ext hX9
      have hE9 := hE8.trans hX9
      replace ho9x0 := OU.of ho9x0
      refine RL.call rfl (eqInt64S_any ho5x0.sv ho9x0.sv) ?_
      rintro r w10 ⟨rfl, hX10⟩
      have hsz10 := hX10.size
      replace ho1x0 := ho1x0.ext hX10
      replace ho2x0 := ho2x0.ext hX10
      replace ho4x0 := ho4x0.ext hX10
      replace ho5x0 := ho5x0.ext hX10
      replace ho7x0 := ho7x0.ext hX10
      replace ho9x0 := ho9x0.ext hX10
      have hE10 := hE9.trans hX10
      refine RL.y rfl (y_not rfl) ?_
      refine RL.nil ?_
      refine Fin.next ?_
      refine CW.condF rfl (by first | (simp; done) | exact decide_eq_false (by omega)) ?_
      refine CW.skip ?_
      refine Fin.next ?_
      refine CW.seq ?_
      refine CW.region ?_
      refine RL.y rfl (y_asg rfl) ?_
      refine RL.nil ?_
      refine Fin.next ?_
      refine CW.ret ?_
      refine Fin.ret1 rfl (by conv => lhs; whnf) ?_
      exact ⟨_, rfl, rfl, hE10⟩
namespace fnExactSideDistance
open Go.ChangeShapes Go.WideShapes Go.ChangeAt Go.RowKit
set_option linter.unusedVariables false
theorem own : ownKnob Try.prog.godebug = none := by kernel_rfl
theorem laidOut : laidOutB Try.prog = true := by kernel_rfl
set_option maxRecDepth 100000 in
theorem lifted (os : Os) (started : os.Started) (H : Type) (enc : TypeId × Value → H) :
    ReturnsInHanded {} Try.checked os 6 .any (Rows.fnExactSideDistanceSpec.pre6 enc Try.prog Try.f6 Rows.fnExactSideDistanceRow.domain false) (Rows.fnExactSideDistanceSpec.post enc Try.prog Try.f6 false true false false) := by
  refine returnsInHanded_of_change (C := Try.checked) own started (by kernel_rfl) Try.func6
    (ChangeSpec.witness6 (enc := enc) (C := Try.checked) false ⟨#[], #[.int .i64 0, .int .i64 0, .slice none 0 0, .slice none 0 0], []⟩ 8 (by kernel_rfl) (by kernel_rfl) (by kernel_rfl) (by kernel_rfl)) ?_
  intro W base args ds gs before hval0 hW hcnd _
  have hval : ∀ (j : Nat) t v, Try.f6.params[j]? = some t → args[j]? = some v → Value.okWide Try.prog W .any base t v := hval0
  have hW' := hW
  obtain ⟨p, q, hA0, hV, rfl, hfz, hnd⟩ := hW
  have hA : DataW.TrodAll enc Try.prog W 0 (fun _ => true) true Try.f6.params.toList args.toList ds p := hA0
  rw [Try.params6] at hA hval
  have hkeep := hA
  obtain ⟨v0, vs0, d0, ds0, p0, q0, hargs, rfl, rfl, h0, r0⟩ := trodAll_cons hA
  obtain ⟨v1, vs1, d1, ds1, p1, q1, rfl, rfl, rfl, h1, r1⟩ := trodAll_cons r0
  obtain ⟨v2, vs2, d2, ds2, p2, q2, rfl, rfl, rfl, h2, r2⟩ := trodAll_cons r1
  obtain ⟨v3, vs3, d3, ds3, p3, q3, rfl, rfl, rfl, h3, r3⟩ := trodAll_cons r2
  obtain ⟨rfl, rfl, rfl⟩ := trodAll_nil r3
  obtain rfl : args = #[v0, v1, v2, v3] := by cases args; simp_all
  obtain ⟨rfl, rfl⟩ := trodVars_none hV
  obtain ⟨a0, rfl, rfl, rfl, w00⟩ := open_int Try.underlying2 (hval 0 2 v0 rfl rfl) h0
  have w0 := I64.of w00
  obtain ⟨a1, rfl, rfl, rfl, w10⟩ := open_int Try.underlying2 (hval 1 2 v1 rfl rfl) h1
  have w1 := I64.of w10
  obtain ⟨xs2, hs2, wf2⟩ := open_SI Try.underlying25 Try.underlying2 (by kernel_rfl) (hval 2 25 v2 rfl rfl) h2
  obtain ⟨xs3, hs3, wf3⟩ := open_SI Try.underlying25 Try.underlying2 (by kernel_rfl) (hval 3 25 v3 rfl rfl) h3
  refine (lawSideDistance W a0 w0 a1 w1 v2 xs2 hs2 wf2 v3 xs3 hs3 wf3).calls.mono fun e W' ⟨r, he, hr, hg⟩ => ?_
  subst hr
  subst he
  exact ⟨_, rfl, _, _, _, [] ++ [], _, [], hW', trodAll_cons_mk (shut_bool Try.underlying4 _) trodAll_mk0, trodAll_ext laidOut (by kernel_rfl) hkeep hg (fun x hx => hW'.lt x (List.mem_append_left _ hx)), rfl, hg.frame _, fun h => by cases h⟩
theorem over : Rows.fnExactSideDistanceRow.holds Try.pinned (OpenSpec.ofChange Rows.fnExactSideDistanceSpec) :=
  OpenClaim.holds_of_wide 6 Try.f6 rfl rfl rfl rfl rfl rfl rfl ⟨rfl, rfl, rfl, rfl, rfl⟩ rfl rfl rfl rfl rfl (by kernel_rfl) Try.func6 (by kernel_rfl)
    (of_decide_eq_true (by kernel_rfl)) (by unfold Func.isWrapper; first | (rw [if_pos (by decide +kernel)]; kernel_rfl) | (rw [if_neg (by decide +kernel)]; exact ⟨rfl, rfl⟩))
    (fun os started H enc _ => lifted os started H enc)
theorem proved : Rows.FnExactSideDistanceSaid := over
end fnExactSideDistance
#print axioms fnExactSideDistance.proved
end Go.Proofs.Ytfpignajpihgnaa
