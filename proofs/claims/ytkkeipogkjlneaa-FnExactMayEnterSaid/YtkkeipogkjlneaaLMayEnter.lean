/-
  The program's MayEnter returns what the reference's MayEnter returns, for all arguments; the arguments read behind the call as before it. No condition.
-/
import Derived.Test.YtkkeipogkjlneaaFPln2
import Derived.Test.YtkkeipogkjlneaaLift5
import Derived.Test.YtkkeipogkjlneaaRows
namespace Go.Proofs.Ytkkeipogkjlneaa
open B Go.RowKit

theorem lawMayEnter (w : World) (v0 : Value) (ps0 : List Int) (ds0 : List Bool) (rs0 : List (List Int)) (hs0 : RdP w v0 ps0 ds0 rs0) (_ : ∀ x ∈ ps0, I64 x) (a1 : Int) (_ : I64 a1) (a2 : Int) (_ : I64 a2) :
    Does Try.prog 4 #[v0, .int .i64 a1, .int .i64 a2] w (fun r w' => r = .bool true ∧ Ext w w') := by
  obtain ⟨vp0, vd0, vr0, rfl, _⟩ := id hs0
  have hT0 := sizeN_tot rs0
  refine enter Try.func4 rfl 48 Try.ntmps4 rfl (by kernel_rfl) ?_
  refine CW.seq ?_
  refine CW.region ?_
  refine RL.box (cs := [vp0, vd0, vr0]) rfl rfl rfl (fun w1 hV1 hX1 => ?_)
  have hsz1 := hX1.size
  have hE1 := hX1
  have hlt1 := hV1.lt
  refine RL.y rfl (y_asg rfl) ?_
  refine RL.nil ?_
  refine Fin.next ?_
  refine CW.seq ?_
  refine CW.region ?_
  refine RL.y rfl (y_asg rfl) ?_
  refine RL.nil ?_
  refine Fin.next ?_
  refine CW.seq ?_
  refine CW.region ?_
  refine RL.y rfl (y_loads ag28 rfl (eqw (hV1)) rfl) ?_
  refine RL.y rfl (y_mov (v := .int _ _) rfl) ?_
  refine RL.call rfl (szPlan_any (hs0.ext hE1) (by omega) (by omega)) ?_
  rintro r w2 ⟨rfl, hX2⟩
  have hsz2 := hX2.size
  replace hV1 := hV1.ext hX2
  have hE2 := hE1.trans hX2
  refine RL.y rfl (y_asg (v := .int _ _) rfl) ?_
  refine RL.nil ?_
  refine Fin.next ?_
  refine CW.seq ?_
  refine CW.seq ?_
  refine CW.region ?_
  refine RL.y rfl (y_mov (v := .int _ _) rfl) ?_
  refine RL.y rfl (y_lt rfl rfl) ?_
  refine RL.nil ?_
  refine Fin.next ?_
  refine CW.cond rfl rfl (fun hbig1 => ?_) (fun hbig1 => ?_)
  · with_reducible first | (replace hbig1 := deNF hbig1) | (replace hbig1 := of_decide_eq_true hbig1) | (replace hbig1 := of_decide_eq_false hbig1) | (replace hbig1 := deNT hbig1) | (replace hbig1 := deNN hbig1) | (replace hbig1 := bnT hbig1) | (replace hbig1 := bnF hbig1) | skip
    refine CW.seq ?_
    refine CW.region ?_
    refine RL.y rfl (y_asg rfl) ?_
    refine RL.nil ?_
    refine Fin.next ?_
    refine CW.ret ?_
    refine Fin.thenRet ?_
    refine Fin.ret1 rfl (by conv => lhs; whnf) ?_
    exact ⟨_, rfl, rfl, hE2⟩
  · with_reducible first | (replace hbig1 := deNF hbig1) | (replace hbig1 := of_decide_eq_true hbig1) | (replace hbig1 := of_decide_eq_false hbig1) | (replace hbig1 := deNT hbig1) | (replace hbig1 := deNN hbig1) | (replace hbig1 := bnT hbig1) | (replace hbig1 := bnF hbig1) | skip
    obtain ⟨hsz1, hszv1⟩ := szV_ok hbig1
    refine CW.skip ?_
    refine Fin.next ?_
    refine CW.seq ?_
    refine CW.region ?_
    refine RL.y rfl (y_loads ag28 rfl (eqw (hV1)) rfl) ?_
    refine RL.call rfl (toPlan_any (hs0.ext hE2) (by omega)) ?_
    rintro v w3 ⟨ho3x0, hX3⟩
    have hsz3 := hX3.size
    replace hV1 := hV1.ext hX3
    have hE3 := hE2.trans hX3
    replace ho3x0 := OwP.of ho3x0
    obtain ⟨vp3x, vd3x, vr3x, _, rfl, _⟩ := id ho3x0
    refine RL.y rfl (y_mov (v := .int _ _) rfl) ?_
    refine RL.y rfl (y_mov (v := .int _ _) rfl) ?_
    refine RL.call rfl (specMayEnter_any ho3x0.rd) ?_
    rintro r w4 ⟨rfl, hX4⟩
    have hsz4 := hX4.size
    replace ho3x0 := ho3x0.ext hX4
    replace hV1 := hV1.ext hX4
    have hE4 := hE3.trans hX4
    refine RL.y rfl (y_mov (by conv => lhs; whnf)) ?_
    refine RL.y rfl (y_ext0 rfl) ?_
    refine RL.y rfl (y_ext1 rfl) ?_
    refine RL.y rfl (y_asg (v := .bool _) rfl) ?_
    refine RL.y rfl (y_asg (v := .int _ _) rfl) ?_
    refine RL.nil ?_
    refine Fin.next ?_
    refine CW.seq ?_
    refine CW.region ?_
    refine RL.y rfl (y_loads ag28 rfl (eqw (hV1)) rfl) ?_
    refine RL.call rfl (toPlan_any (hs0.ext hE4) (by omega)) ?_
    rintro v w5 ⟨ho5x0, hX5⟩
    have hsz5 := hX5.size
    replace ho3x0 := ho3x0.ext hX5
    replace hV1 := hV1.ext hX5
    have hE5 := hE4.trans hX5
    replace ho5x0 := OwP.of ho5x0
    obtain ⟨vp5x, vd5x, vr5x, _, rfl, _⟩ := id ho5x0
    refine RL.alloc rfl ze33 (fun w6 hV6 hX6 => ?_)
    have hsz6 := hX6.size
    replace ho3x0 := ho3x0.ext hX6
    replace ho5x0 := ho5x0.ext hX6
    replace hV1 := hV1.ext hX6
    have hE6 := hE5.trans hX6
    have hlt6 := hV6.lt
    refine RL.stores ag33 (hV6) rfl rfl rfl rfl (ho5x0.one) (fun w7 hV7 hg7 => ?_)
    have hM7 := grown_mod (B := w5.heap.size) (U := w5.heap.size + 1) hg7 (fun k e => by simp only [Option.some.injEq] at e; omega)
    have hsz7 := hM7.size
    replace ho3x0 := ho3x0.mod hM7 (by omega)
    replace ho5x0 := ho5x0.mod hM7 (by omega)
    replace hV1 := hV1.mod hM7 (by omega)
    have hE7 := Ext.then_mod hE6 hM7 (by omega)
    refine RL.nil ?_
    refine Fin.next ?_
    refine CW.seq ?_
    refine CW.region ?_
    refine RL.y rfl (y_loads ag33 rfl (eqw (hV7)) rfl) ?_
    refine RL.y rfl (y_mov (v := .int _ _) rfl) ?_
    refine RL.y rfl (y_mov (v := .int _ _) rfl) ?_
    refine RL.call rfl (implMayEnter_any ho5x0.rd) ?_
    rintro r w8 ⟨rfl, hX8⟩
    have hsz8 := hX8.size
    replace ho3x0 := ho3x0.ext hX8
    replace ho5x0 := ho5x0.ext hX8
    replace hV1 := hV1.ext hX8
    replace hV7 := hV7.ext hX8
    have hE8 := hE7.trans hX8
    refine RL.y rfl (y_mov (by conv => lhs; whnf)) ?_
    refine RL.y rfl (y_ext0 rfl) ?_
    refine RL.y rfl (y_ext1 rfl) ?_
    refine RL.y rfl (y_asg (v := .bool _) rfl) ?_
    refine RL.y rfl (y_asg (v := .int _ _) rfl) ?_
    refine RL.nil ?_
    refine Fin.next ?_
    refine CW.seq ?_
    refine CW.seq ?_
    refine CW.region ?_
    refine RL.y rfl (y_mov (v := .bool _) rfl) ?_
    refine RL.y rfl (y_mov (v := .bool _) rfl) ?_
    refine RL.y rfl (y_bne Try.underlying4 rfl rfl) ?_
    refine RL.y rfl (y_mov (v := .bool _) rfl) ?_
    refine RL.force (t := 38) false rfl rfl (by first | (simp; done) | exact decide_eq_false (by omega)) ?_
    refine RL.take (t := 38) rfl rfl rfl ?_
    refine RL.y rfl (y_mov (v := .int _ _) rfl) ?_
    refine RL.take (t := 38) rfl rfl rfl ?_
    refine RL.y rfl (y_mov (v := .int _ _) rfl) ?_
    refine RL.take (t := 38) rfl rfl rfl ?_
    refine RL.y rfl (y_ne rfl rfl) ?_
    refine RL.y rfl (y_pickF (v := .bool _) rfl rfl) ?_
    refine RL.nil ?_
    refine Fin.next ?_
    refine CW.condF rfl (by first | (simp; done) | exact decide_eq_false (by omega)) ?_
    refine CW.skip ?_
    refine Fin.next ?_
    refine CW.seq ?_
    refine CW.seq ?_
    refine CW.tape (Ext _) [4, 3, 2] mixed (by kernel_rfl) (by kernel_rfl) (Ext.drew _) ?_
    refine TL.y rfl rfl (y_loads ag33 rfl (fun _ hC => (hV7).ext hC) rfl) ?_
    refine TL.y rfl rfl (y_loads ag28 rfl (fun _ hC => (hV1).ext hC) rfl) ?_
    refine TL.op rfl (fun hC => ?_)
    replace ho3x0 := ho3x0.ext hC
    replace ho5x0 := ho5x0.ext hC
    replace hV1 := hV1.ext hC
    replace hV7 := hV7.ext hC
    have hE9 := hE8.trans hC
    have hsz9 := hC.size
    refine RL.call rfl (toPlan_any (hs0.ext hE9) (by omega)) ?_
    rintro v w10 ⟨ho10x0, hX10⟩
    have hsz10 := hX10.size
    replace ho3x0 := ho3x0.ext hX10
    replace ho5x0 := ho5x0.ext hX10
    replace hV1 := hV1.ext hX10
    replace hV7 := hV7.ext hX10
    have hE10 := hE9.trans hX10
    replace ho10x0 := OwP.of ho10x0
    obtain ⟨vp10x, vd10x, vr10x, _, rfl, _⟩ := id ho10x0
    refine RL.nil ?_
    refine Fin.tl (by first | exact hC | (refine Ext.trans hC ?_; assumption)) ?_
    refine TL.op rfl (fun hC => ?_)
    refine RL.call rfl (eqPlan_any ho5x0.rd ho10x0.rd) ?_
    rintro r w11 ⟨rfl, hX11⟩
    have hsz11 := hX11.size
    replace ho3x0 := ho3x0.ext hX11
    replace ho5x0 := ho5x0.ext hX11
    replace ho10x0 := ho10x0.ext hX11
    replace hV1 := hV1.ext hX11
    replace hV7 := hV7.ext hX11
    have hE11 := hE10.trans hX11
    refine RL.nil ?_
    refine Fin.tl (by first | exact hC | (refine Ext.trans hC ?_; assumption)) ?_
    refine TL.yc rfl rfl (y_not rfl) ?_
    refine TL.nil (fun hC => ?_)
    refine Fin.next ?_
    refine CW.condF rfl (by first | (simp; done) | exact decide_eq_false (by omega)) ?_
    refine CW.skip ?_
    refine Fin.next ?_
    refine CW.seq ?_
    refine CW.region ?_
    refine RL.y rfl (y_asg rfl) ?_
    refine RL.nil ?_
    refine Fin.next ?_
    refine CW.ret ?_
    refine Fin.ret1 rfl (by conv => lhs; whnf) ?_
    exact ⟨_, rfl, rfl, hE11⟩
namespace fnExactMayEnter
open Go.ChangeShapes Go.WideShapes Go.ChangeAt Go.RowKit
set_option linter.unusedVariables false
theorem own : ownKnob Try.prog.godebug = none := by kernel_rfl
theorem laidOut : laidOutB Try.prog = true := by kernel_rfl
set_option maxRecDepth 100000 in
theorem lifted (os : Os) (started : os.Started) (H : Type) (enc : TypeId × Value → H) :
    ReturnsInHanded {} Try.checked os 4 .any (Rows.fnExactMayEnterSpec.pre6 enc Try.prog Try.f4 Rows.fnExactMayEnterRow.domain false) (Rows.fnExactMayEnterSpec.post enc Try.prog Try.f4 false true false false) := by
  refine returnsInHanded_of_change (C := Try.checked) own started (by kernel_rfl) Try.func4
    (ChangeSpec.witness6 (enc := enc) (C := Try.checked) false ⟨#[], #[.agg #[(.slice none 0 0), (.slice none 0 0), (.slice none 0 0)], .int .i64 0, .int .i64 0], []⟩ 8 (by kernel_rfl) (by kernel_rfl) (by kernel_rfl) (by kernel_rfl)) ?_
  intro W base args ds gs before hval0 hW hcnd _
  have hval : ∀ (j : Nat) t v, Try.f4.params[j]? = some t → args[j]? = some v → Value.okWide Try.prog W .any base t v := hval0
  have hW' := hW
  obtain ⟨p, q, hA0, hV, rfl, hfz, hnd⟩ := hW
  have hA : DataW.TrodAll enc Try.prog W 0 (fun _ => true) true Try.f4.params.toList args.toList ds p := hA0
  rw [Try.params4] at hA hval
  have hkeep := hA
  obtain ⟨v0, vs0, d0, ds0, p0, q0, hargs, rfl, rfl, h0, r0⟩ := trodAll_cons hA
  obtain ⟨v1, vs1, d1, ds1, p1, q1, rfl, rfl, rfl, h1, r1⟩ := trodAll_cons r0
  obtain ⟨v2, vs2, d2, ds2, p2, q2, rfl, rfl, rfl, h2, r2⟩ := trodAll_cons r1
  obtain ⟨rfl, rfl, rfl⟩ := trodAll_nil r2
  obtain rfl : args = #[v0, v1, v2] := by cases args; simp_all
  obtain ⟨rfl, rfl⟩ := trodVars_none hV
  obtain ⟨vp0, vd0, vr0, yp0, yd0, yr0, n0, m0, hag0, tp0, td0, tr0⟩ := open_agg21 Try.underlying28 Try.underlying25 rfl (by kernel_rfl) (hval 0 28 v0 rfl rfl) h0
  obtain ⟨ps0, hp0, wf0⟩ := open_SIt Try.underlying22 Try.underlying2 (by kernel_rfl) tp0
  obtain ⟨ds0, hd0⟩ := open_SBt Try.underlying23 Try.underlying4 (by kernel_rfl) td0
  obtain ⟨rs0, hr0, _⟩ := open_RdSSt Try.underlying26 Try.underlying22 Try.underlying2 (by kernel_rfl) (by kernel_rfl) tr0
  obtain ⟨a1, rfl, rfl, rfl, w10⟩ := open_int Try.underlying2 (hval 1 2 v1 rfl rfl) h1
  have w1 := I64.of w10
  obtain ⟨a2, rfl, rfl, rfl, w20⟩ := open_int Try.underlying2 (hval 2 2 v2 rfl rfl) h2
  have w2 := I64.of w20
  refine (lawMayEnter W v0 ps0 ds0 rs0 ⟨vp0, vd0, vr0, hag0, ⟨vp0, vd0, rfl, hp0, hd0⟩, hr0⟩ wf0 a1 w1 a2 w2).calls.mono fun e W' ⟨r, he, hr, hg⟩ => ?_
  subst hr
  subst he
  exact ⟨_, rfl, _, _, _, [] ++ [], _, [], hW', trodAll_cons_mk (shut_bool Try.underlying4 _) trodAll_mk0, trodAll_ext laidOut (by kernel_rfl) hkeep hg (fun x hx => hW'.lt x (List.mem_append_left _ hx)), rfl, hg.frame _, fun h => by cases h⟩
theorem over : Rows.fnExactMayEnterRow.holds Try.pinned (OpenSpec.ofChange Rows.fnExactMayEnterSpec) :=
  OpenClaim.holds_of_wide 4 Try.f4 rfl rfl rfl rfl rfl rfl rfl ⟨rfl, rfl, rfl, rfl, rfl⟩ rfl rfl rfl rfl rfl (by kernel_rfl) Try.func4 (by kernel_rfl)
    (of_decide_eq_true (by kernel_rfl)) (by unfold Func.isWrapper; first | (rw [if_pos (by decide +kernel)]; kernel_rfl) | (rw [if_neg (by decide +kernel)]; exact ⟨rfl, rfl⟩))
    (fun os started H enc _ => lifted os started H enc)
theorem proved : Rows.FnExactMayEnterSaid := over
end fnExactMayEnter
#print axioms fnExactMayEnter.proved
end Go.Proofs.Ytkkeipogkjlneaa
