/-
  The program's CommonGroup returns what the reference's CommonGroup returns, for all arguments; the arguments read behind the call as before it. No condition.
-/
import Derived.Test.YtebegkegkdmbjaaFBld7
import Derived.Test.YtebegkegkdmbjaaLift3
import Derived.Test.YtebegkegkdmbjaaRows
namespace Go.Proofs.Ytebegkegkdmbjaa
open B Go.RowKit

theorem lawCommonGroup (w : World) (v0 : Value) (ps0 : List Int) (ds0 : List Bool) (hs0 : RdB w v0 ps0 ds0) (_ : ∀ x ∈ ps0, I64 x) (v1 : Value) (xs1 : List Int) (hs1 : SI w v1 xs1) (_ : ∀ x ∈ xs1, I64 x) :
    Does Try.prog 5 #[v0, v1] w (fun r w' => r = .bool true ∧ Ext w w') := by
  obtain ⟨vp0, vd0, rfl, _⟩ := id hs0
  refine enter Try.func5 rfl 56 Try.ntmps5 rfl (by kernel_rfl) ?_
  refine CW.seq ?_
  refine CW.region ?_
  refine RL.box (cs := [vp0, vd0]) rfl rfl rfl (fun w1 hV1 hX1 => ?_)
  have hsz1 := hX1.size
  have hE1 := hX1
  have hlt1 := hV1.lt
  refine RL.y rfl (y_asg rfl) ?_
  refine RL.nil ?_
  refine Fin.next ?_
  refine CW.seq ?_
  refine CW.seq ?_
  refine CW.region ?_
  refine RL.y rfl (y_mov (by conv => lhs; whnf)) ?_
  refine RL.y rfl (y_len sT22 hs1 (ints_len _) rfl) ?_
  refine RL.y rfl (y_gt rfl rfl) ?_
  refine RL.nil ?_
  refine Fin.next ?_
  refine CW.cond rfl rfl (fun hbig1 => ?_) (fun hbig1 => ?_)
  · with_reducible first | (replace hbig1 := deNF hbig1) | (replace hbig1 := of_decide_eq_true hbig1) | (replace hbig1 := of_decide_eq_false hbig1) | (replace hbig1 := deNT hbig1) | (replace hbig1 := deNN hbig1) | (replace hbig1 := bnT hbig1) | (replace hbig1 := bnF hbig1) | skip
    refine CW.seq ?_
    refine CW.region ?_
    refine RL.y rfl (y_asg rfl) ?_
    refine RL.nil ?_
    refine Fin.next ?_
    refine CW.ret ?_
    refine Fin.thenRet ?_
    refine Fin.ret1 rfl (by conv => lhs; whnf) ?_
    exact ⟨_, rfl, rfl, hE1⟩
  · with_reducible first | (replace hbig1 := deNF hbig1) | (replace hbig1 := of_decide_eq_true hbig1) | (replace hbig1 := of_decide_eq_false hbig1) | (replace hbig1 := deNT hbig1) | (replace hbig1 := deNN hbig1) | (replace hbig1 := bnT hbig1) | (replace hbig1 := bnF hbig1) | skip
    refine CW.skip ?_
    refine Fin.next ?_
    refine CW.seq ?_
    refine CW.region ?_
    refine RL.y rfl (y_asg rfl) ?_
    refine RL.nil ?_
    refine Fin.next ?_
    refine CW.seq ?_
    refine CW.region ?_
    refine RL.y rfl (y_loads ag25 rfl (eqw (hV1)) rfl) ?_
    refine RL.y rfl (y_mov (v := .int _ _) rfl) ?_
    refine RL.call rfl (szBuilding_any (hs0.ext hE1) (by omega) (by omega)) ?_
    rintro r w2 ⟨rfl, hX2⟩
    have hsz2 := hX2.size
    replace hV1 := hV1.ext hX2
    have hE2 := hE1.trans hX2
    refine RL.y rfl (y_asg (v := .int _ _) rfl) ?_
    refine RL.nil ?_
    refine Fin.next ?_
    refine CW.seq ?_
    refine CW.seq ?_
    refine CW.region ?_
    refine RL.y rfl (y_mov (v := .int _ _) rfl) ?_
    refine RL.y rfl (y_lt rfl rfl) ?_
    refine RL.nil ?_
    refine Fin.next ?_
    refine CW.cond rfl rfl (fun hbig2 => ?_) (fun hbig2 => ?_)
    · with_reducible first | (replace hbig2 := deNF hbig2) | (replace hbig2 := of_decide_eq_true hbig2) | (replace hbig2 := of_decide_eq_false hbig2) | (replace hbig2 := deNT hbig2) | (replace hbig2 := deNN hbig2) | (replace hbig2 := bnT hbig2) | (replace hbig2 := bnF hbig2) | skip
      refine CW.seq ?_
      refine CW.region ?_
      refine RL.y rfl (y_asg rfl) ?_
      refine RL.nil ?_
      refine Fin.next ?_
      refine CW.ret ?_
      refine Fin.thenRet ?_
      refine Fin.ret1 rfl (by conv => lhs; whnf) ?_
      exact ⟨_, rfl, rfl, hE2⟩
    · with_reducible first | (replace hbig2 := deNF hbig2) | (replace hbig2 := of_decide_eq_true hbig2) | (replace hbig2 := of_decide_eq_false hbig2) | (replace hbig2 := deNT hbig2) | (replace hbig2 := deNN hbig2) | (replace hbig2 := bnT hbig2) | (replace hbig2 := bnF hbig2) | skip
      obtain ⟨hsz2, hszv2⟩ := szV_ok hbig2
      refine CW.skip ?_
      refine Fin.next ?_
      refine CW.seq ?_
      refine CW.region ?_
      refine RL.y rfl (y_loads ag25 rfl (eqw (hV1)) rfl) ?_
      refine RL.call rfl (toBuilding_any (hs0.ext hE2) (by omega)) ?_
      rintro v w3 ⟨ho3x0, hX3⟩
      have hsz3 := hX3.size
      replace hV1 := hV1.ext hX3
      have hE3 := hE2.trans hX3
      replace ho3x0 := OwB.of ho3x0
      obtain ⟨vp3, vd3, rfl, _⟩ := id ho3x0
      refine RL.y rfl (y_mov (by conv => lhs; whnf)) ?_
      refine RL.call rfl (toInt64S_any (hs1.ext hE3) (by omega)) ?_
      rintro v w4 ⟨ho4x0, hX4, _⟩
      have hsz4 := hX4.size
      replace ho3x0 := ho3x0.ext hX4
      replace hV1 := hV1.ext hX4
      have hE4 := hE3.trans hX4
      replace ho4x0 := OU.of ho4x0
      refine RL.call rfl (specCommonGroup_any ho3x0.rd ho4x0.sv) ?_
      rintro r w5 ⟨rfl, hX5⟩
      have hsz5 := hX5.size
      replace ho3x0 := ho3x0.ext hX5
      replace ho4x0 := ho4x0.ext hX5
      replace hV1 := hV1.ext hX5
      have hE5 := hE4.trans hX5
      refine RL.y rfl (y_mov (by conv => lhs; whnf)) ?_
      refine RL.y rfl (y_ext0 rfl) ?_
      refine RL.y rfl (y_ext1 rfl) ?_
      refine RL.y rfl (y_asg (v := .int _ _) rfl) ?_
      refine RL.y rfl (y_asg (v := .int _ _) rfl) ?_
      refine RL.nil ?_
      refine Fin.next ?_
      refine CW.seq ?_
      refine CW.region ?_
      refine RL.y rfl (y_loads ag25 rfl (eqw (hV1)) rfl) ?_
      refine RL.call rfl (toBuilding_any (hs0.ext hE5) (by omega)) ?_
      rintro v w6 ⟨ho6x0, hX6⟩
      have hsz6 := hX6.size
      replace ho3x0 := ho3x0.ext hX6
      replace ho4x0 := ho4x0.ext hX6
      replace hV1 := hV1.ext hX6
      have hE6 := hE5.trans hX6
      replace ho6x0 := OwB.of ho6x0
      obtain ⟨vp6, vd6, rfl, _⟩ := id ho6x0
      refine RL.alloc rfl ze28 (fun w7 hV7 hX7 => ?_)
      have hsz7 := hX7.size
      replace ho3x0 := ho3x0.ext hX7
      replace ho4x0 := ho4x0.ext hX7
      replace ho6x0 := ho6x0.ext hX7
      replace hV1 := hV1.ext hX7
      have hE7 := hE6.trans hX7
      have hlt7 := hV7.lt
      refine RL.stores ag28 (hV7) rfl rfl rfl rfl (ho6x0.one) (fun w8 hV8 hg8 => ?_)
      have hM8 := grown_mod (B := w6.heap.size) (U := w6.heap.size + 1) hg8 (fun k e => by simp only [Option.some.injEq] at e; omega)
      have hsz8 := hM8.size
      replace ho3x0 := ho3x0.mod hM8 (by omega)
      replace ho4x0 := ho4x0.mod hM8 (by omega)
      replace ho6x0 := ho6x0.mod hM8 (by omega)
      replace hV1 := hV1.mod hM8 (by omega)
      have hE8 := Ext.then_mod hE7 hM8 (by omega)
      refine RL.nil ?_
      refine Fin.next ?_
      refine CW.seq ?_
      refine CW.region ?_
      refine RL.y rfl (y_mov (by conv => lhs; whnf)) ?_
      refine RL.call rfl (toInt64S_any (hs1.ext hE8) (by omega)) ?_
      rintro v w9 ⟨ho9x0, hX9, _⟩
      have hsz9 := hX9.size
      replace ho3x0 := ho3x0.ext hX9
      replace ho4x0 := ho4x0.ext hX9
      replace ho6x0 := ho6x0.ext hX9
      replace hV1 := hV1.ext hX9
      replace hV8 := hV8.ext hX9
      have hE9 := hE8.trans hX9
      replace ho9x0 := OU.of ho9x0
      refine RL.y rfl (y_asg (by conv => lhs; whnf)) ?_
      refine RL.nil ?_
      refine Fin.next ?_
      refine CW.seq ?_
      refine CW.region ?_
      refine RL.y rfl (y_loads ag28 rfl (eqw (hV8)) rfl) ?_
      refine RL.y rfl (y_mov (by conv => lhs; whnf)) ?_
      refine RL.call rfl (implCommonGroup_any ho6x0.rd ho9x0.sv) ?_
      rintro r w10 ⟨rfl, hX10⟩
      have hsz10 := hX10.size
      replace ho3x0 := ho3x0.ext hX10
      replace ho4x0 := ho4x0.ext hX10
      replace ho6x0 := ho6x0.ext hX10
      replace ho9x0 := ho9x0.ext hX10
      replace hV1 := hV1.ext hX10
      replace hV8 := hV8.ext hX10
      have hE10 := hE9.trans hX10
      refine RL.y rfl (y_mov (by conv => lhs; whnf)) ?_
      refine RL.y rfl (y_ext0 rfl) ?_
      refine RL.y rfl (y_ext1 rfl) ?_
      refine RL.y rfl (y_asg (v := .int _ _) rfl) ?_
      refine RL.y rfl (y_asg (v := .int _ _) rfl) ?_
      refine RL.nil ?_
      refine Fin.next ?_
      refine CW.seq ?_
      refine CW.seq ?_
      refine CW.region ?_
      refine RL.y rfl (y_mov (v := .int _ _) rfl) ?_
      refine RL.y rfl (y_mov (v := .int _ _) rfl) ?_
      refine RL.y rfl (y_ne rfl rfl) ?_
      refine RL.y rfl (y_mov (v := .bool _) rfl) ?_
      refine RL.force (t := 41) false rfl rfl (by first | (simp; done) | exact decide_eq_false (by omega)) ?_
      refine RL.take (t := 41) rfl rfl rfl ?_
      refine RL.y rfl (y_mov (v := .int _ _) rfl) ?_
      refine RL.take (t := 41) rfl rfl rfl ?_
      refine RL.y rfl (y_mov (v := .int _ _) rfl) ?_
      refine RL.take (t := 41) rfl rfl rfl ?_
      refine RL.y rfl (y_ne rfl rfl) ?_
      refine RL.y rfl (y_pickF (v := .bool _) rfl rfl) ?_
      refine RL.nil ?_
      refine Fin.next ?_
      refine CW.condF rfl (by first | (simp; done) | exact decide_eq_false (by omega)) ?_
      refine CW.skip ?_
      refine Fin.next ?_
      refine CW.seq ?_
      refine CW.seq ?_
      refine CW.tape (Ext _) [4, 3, 2] mixed (by kernel_rfl) (by kernel_rfl) (Ext.drew _) ?_
      refine TL.y rfl rfl (y_loads ag28 rfl (fun _ hC => (hV8).ext hC) rfl) ?_
      refine TL.y rfl rfl (y_loads ag25 rfl (fun _ hC => (hV1).ext hC) rfl) ?_
      refine TL.op rfl (fun hC => ?_)
      replace ho3x0 := ho3x0.ext hC
      replace ho4x0 := ho4x0.ext hC
      replace ho6x0 := ho6x0.ext hC
      replace ho9x0 := ho9x0.ext hC
      replace hV1 := hV1.ext hC
      replace hV8 := hV8.ext hC
      have hE11 := hE10.trans hC
      have hsz11 := hC.size
      refine RL.call rfl (toBuilding_any (hs0.ext hE11) (by omega)) ?_
      rintro v w12 ⟨ho12x0, hX12⟩
      have hsz12 := hX12.size
      replace ho3x0 := ho3x0.ext hX12
      replace ho4x0 := ho4x0.ext hX12
      replace ho6x0 := ho6x0.ext hX12
      replace ho9x0 := ho9x0.ext hX12
      replace hV1 := hV1.ext hX12
      replace hV8 := hV8.ext hX12
      have hE12 := hE11.trans hX12
      replace ho12x0 := OwB.of ho12x0
      obtain ⟨vp12, vd12, rfl, _⟩ := id ho12x0
      refine RL.nil ?_
      refine Fin.tl (by first | exact hC | (refine Ext.trans hC ?_; assumption)) ?_
      refine TL.op rfl (fun hC => ?_)
      refine RL.call rfl (eqBuilding_any ho6x0.rd ho12x0.rd) ?_
      rintro r w13 ⟨rfl, hX13⟩
      have hsz13 := hX13.size
      replace ho3x0 := ho3x0.ext hX13
      replace ho4x0 := ho4x0.ext hX13
      replace ho6x0 := ho6x0.ext hX13
      replace ho9x0 := ho9x0.ext hX13
      replace ho12x0 := ho12x0.ext hX13
      replace hV1 := hV1.ext hX13
      replace hV8 := hV8.ext hX13
      have hE13 := hE12.trans hX13
      refine RL.nil ?_
      refine Fin.tl (by first | exact hC | (refine Ext.trans hC ?_; assumption)) ?_
      refine TL.yc rfl rfl (y_not rfl) ?_
      refine TL.nil (fun hC => ?_)
      refine Fin.next ?_
      refine CW.condF rfl (by first | (simp; done) | exact decide_eq_false (by omega)) ?_
      refine CW.skip ?_
      refine Fin.next ?_
      refine CW.seq ?_
      refine CW.seq ?_
      refine CW.region ?_
      refine RL.y rfl (y_mov (by conv => lhs; whnf)) ?_
      refine RL.y rfl (y_mov (by conv => lhs; whnf)) ?_
      refine RL.call rfl (toInt64S_any (hs1.ext hE13) (by omega)) ?_
      rintro v w14 ⟨ho14x0, hX14, _⟩
      have hsz14 := hX14.size
      replace ho3x0 := ho3x0.ext hX14
      replace ho4x0 := ho4x0.ext hX14
      replace ho6x0 := ho6x0.ext hX14
      replace ho9x0 := ho9x0.ext hX14
      replace ho12x0 := ho12x0.ext hX14
      replace hV1 := hV1.ext hX14
      replace hV8 := hV8.ext hX14
      have hE14 := hE13.trans hX14
      replace ho14x0 := OU.of ho14x0
      refine RL.call rfl (eqInt64S_any ho9x0.sv ho14x0.sv) ?_
      rintro r w15 ⟨rfl, hX15⟩
      have hsz15 := hX15.size
      replace ho3x0 := ho3x0.ext hX15
      replace ho4x0 := ho4x0.ext hX15
      replace ho6x0 := ho6x0.ext hX15
      replace ho9x0 := ho9x0.ext hX15
      replace ho12x0 := ho12x0.ext hX15
      replace ho14x0 := ho14x0.ext hX15
      replace hV1 := hV1.ext hX15
      replace hV8 := hV8.ext hX15
      have hE15 := hE14.trans hX15
      refine RL.y rfl (y_not rfl) ?_
      refine RL.nil ?_
      refine Fin.next ?_
      refine CW.condF rfl (by first | (simp; done) | exact decide_eq_false (by omega)) ?_
      refine CW.skip ?_
      refine Fin.next ?_
      refine CW.seq ?_
      refine CW.region ?_
      refine RL.y rfl (y_asg rfl) ?_
      refine RL.nil ?_
      refine Fin.next ?_
      refine CW.ret ?_
      refine Fin.ret1 rfl (by conv => lhs; whnf) ?_
      exact ⟨_, rfl, rfl, hE15⟩
namespace fnExactCommonGroup
open Go.ChangeShapes Go.WideShapes Go.ChangeAt Go.RowKit
set_option linter.unusedVariables false
theorem own : ownKnob Try.prog.godebug = none := by kernel_rfl
theorem laidOut : laidOutB Try.prog = true := by kernel_rfl
set_option maxRecDepth 100000 in
theorem lifted (os : Os) (started : os.Started) (H : Type) (enc : TypeId × Value → H) :
    ReturnsInHanded {} Try.checked os 5 .any (Rows.fnExactCommonGroupSpec.pre6 enc Try.prog Try.f5 Rows.fnExactCommonGroupRow.domain false) (Rows.fnExactCommonGroupSpec.post enc Try.prog Try.f5 false true false false) := by
  refine returnsInHanded_of_change (C := Try.checked) own started (by kernel_rfl) Try.func5
    (ChangeSpec.witness6 (enc := enc) (C := Try.checked) false ⟨#[], #[.agg #[(.slice none 0 0), (.slice none 0 0)], .slice none 0 0], []⟩ 8 (by kernel_rfl) (by kernel_rfl) (by kernel_rfl) (by kernel_rfl)) ?_
  intro W base args ds gs before hval0 hW hcnd _
  have hval : ∀ (j : Nat) t v, Try.f5.params[j]? = some t → args[j]? = some v → Value.okWide Try.prog W .any base t v := hval0
  have hW' := hW
  obtain ⟨p, q, hA0, hV, rfl, hfz, hnd⟩ := hW
  have hA : DataW.TrodAll enc Try.prog W 0 (fun _ => true) true Try.f5.params.toList args.toList ds p := hA0
  rw [Try.params5] at hA hval
  have hkeep := hA
  obtain ⟨v0, vs0, d0, ds0, p0, q0, hargs, rfl, rfl, h0, r0⟩ := trodAll_cons hA
  obtain ⟨v1, vs1, d1, ds1, p1, q1, rfl, rfl, rfl, h1, r1⟩ := trodAll_cons r0
  obtain ⟨rfl, rfl, rfl⟩ := trodAll_nil r1
  obtain rfl : args = #[v0, v1] := by cases args; simp_all
  obtain ⟨rfl, rfl⟩ := trodVars_none hV
  obtain ⟨vp0, vd0, yp0, yd0, n0, hag0, _, _, tp0, td0⟩ := Go.Joins.open_agg2 Try.underlying25 (by kernel_rfl) (by kernel_rfl) (hval 0 25 v0 rfl rfl) h0
  obtain ⟨ps0, hp0, wf0⟩ := open_SIt Try.underlying22 Try.underlying2 (by kernel_rfl) tp0
  obtain ⟨ds0, hd0⟩ := open_SBt Try.underlying23 Try.underlying4 (by kernel_rfl) td0
  obtain ⟨xs1, hs1, wf1⟩ := open_SI Try.underlying22 Try.underlying2 (by kernel_rfl) (hval 1 22 v1 rfl rfl) h1
  refine (lawCommonGroup W v0 ps0 ds0 ⟨vp0, vd0, hag0, hp0, hd0⟩ wf0 v1 xs1 hs1 wf1).calls.mono fun e W' ⟨r, he, hr, hg⟩ => ?_
  subst hr
  subst he
  exact ⟨_, rfl, _, _, _, [] ++ [], _, [], hW', trodAll_cons_mk (shut_bool Try.underlying4 _) trodAll_mk0, trodAll_ext laidOut (by kernel_rfl) hkeep hg (fun x hx => hW'.lt x (List.mem_append_left _ hx)), rfl, hg.frame _, fun h => by cases h⟩
theorem over : Rows.fnExactCommonGroupRow.holds Try.pinned (OpenSpec.ofChange Rows.fnExactCommonGroupSpec) :=
  OpenClaim.holds_of_wide 5 Try.f5 rfl rfl rfl rfl rfl rfl rfl ⟨rfl, rfl, rfl, rfl, rfl⟩ rfl rfl rfl rfl rfl (by kernel_rfl) Try.func5 (by kernel_rfl)
    (of_decide_eq_true (by kernel_rfl)) (by unfold Func.isWrapper; first | (rw [if_pos (by decide +kernel)]; kernel_rfl) | (rw [if_neg (by decide +kernel)]; exact ⟨rfl, rfl⟩))
    (fun os started H enc _ => lifted os started H enc)
theorem proved : Rows.FnExactCommonGroupSaid := over
end fnExactCommonGroup
#print axioms fnExactCommonGroup.proved
end Go.Proofs.Ytebegkegkdmbjaa
