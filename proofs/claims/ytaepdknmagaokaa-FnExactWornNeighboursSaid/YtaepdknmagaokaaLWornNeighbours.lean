/-
  The program's WornNeighbours returns what the reference's WornNeighbours returns, for all arguments; the arguments read behind the call as before it. No condition.
-/
import Derived.Test.YtaepdknmagaokaaFNbr
import Derived.Test.YtaepdknmagaokaaFMarkL
import Derived.Test.YtaepdknmagaokaaLift5
import Derived.Test.YtaepdknmagaokaaRows
namespace Go.Proofs.Ytaepdknmagaokaa
open B Go.RowKit

set_option maxRecDepth 8000 in
theorem lawWornNeighbours (w : World) (mk0 : Mk) (v1 : Value) (xs1 : List Int) (hs1 : SI w v1 xs1) (_ : ∀ x ∈ xs1, I64 x) (a2 : Int) (_ : I64 a2) (a3 : Int) (_ : I64 a3) :
    Does Try.prog 8 #[mkA mk0, v1, .int .i64 a2, .int .i64 a3] w (fun r w' => r = .bool true ∧ Ext w w') := by
  skip
  refine enter Try.func8 rfl 51 Try.ntmps8 rfl (by kernel_rfl) ?_
  refine CW.seq ?_
  refine CW.region ?_
  refine RL.box (cs := [.int .i64 mk0.ch, .int .i64 mk0.dp, .int .i64 mk0.st, .int .i64 mk0.sm, .int .i64 mk0.le]) rfl rfl rfl (fun w1 hV1 hX1 => ?_)
  have hsz1 := hX1.size
  have hE1 := hX1
  have hlt1 := hV1.lt
  refine RL.y rfl (y_asg rfl) ?_
  refine RL.nil ?_
  refine Fin.next ?_
  refine CW.seq ?_
  refine CW.seq ?_
  refine CW.region ?_
  refine RL.y rfl (y_mov (by conv => lhs; whnf)) ?_
  refine RL.y rfl (y_len sT29 hs1 (ints_len _) rfl) ?_
  refine RL.y rfl (y_gt rfl rfl) ?_
  refine RL.nil ?_
  refine Fin.next ?_
  refine CW.cond rfl rfl (fun hbig1 => ?_) (fun hbig1 => ?_)
  · with_reducible first | (replace hbig1 := deNF hbig1) | (replace hbig1 := of_decide_eq_true hbig1) | (replace hbig1 := of_decide_eq_false hbig1) | (replace hbig1 := deNT hbig1) | (replace hbig1 := deNN hbig1) | (replace hbig1 := bnT hbig1) | (replace hbig1 := bnF hbig1) | skip
    refine CW.seq ?_
    refine CW.region ?_
    refine RL.y rfl (y_asg rfl) ?_
    refine RL.nil ?_
    refine Fin.next ?_
    refine CW.ret ?_
    refine Fin.thenRet ?_
    refine Fin.ret1 rfl (by conv => lhs; whnf) ?_
    exact ⟨_, rfl, rfl, hE1⟩
  · with_reducible first | (replace hbig1 := deNF hbig1) | (replace hbig1 := of_decide_eq_true hbig1) | (replace hbig1 := of_decide_eq_false hbig1) | (replace hbig1 := deNT hbig1) | (replace hbig1 := deNN hbig1) | (replace hbig1 := bnT hbig1) | (replace hbig1 := bnF hbig1) | skip
    refine CW.skip ?_
    refine Fin.next ?_
    refine CW.seq ?_
    refine CW.region ?_
    refine RL.y rfl (y_loads ag40 rfl (eqw (hV1)) rfl) ?_
    refine RL.call rfl (toMaker_any) ?_
    rintro v w2 ⟨rfl, hX2⟩
    have hsz2 := hX2.size
    replace hV1 := hV1.ext hX2
    have hE2 := hE1.trans hX2
    refine RL.y rfl (y_mov (by conv => lhs; whnf)) ?_
    refine RL.call rfl (toInt64S_any (hs1.ext hE2) (by omega)) ?_
    rintro v w3 ⟨ho3x0, hX3, _⟩
    have hsz3 := hX3.size
    replace hV1 := hV1.ext hX3
    have hE3 := hE2.trans hX3
    replace ho3x0 := OU.of ho3x0
    refine RL.y rfl (y_mov (v := .int _ _) rfl) ?_
    refine RL.y rfl (y_mov (v := .int _ _) rfl) ?_
    refine RL.call rfl (specWornNb_any ho3x0.sv) ?_
    rintro r w4 ⟨rfl, hX4⟩
    have hsz4 := hX4.size
    replace ho3x0 := ho3x0.ext hX4
    replace hV1 := hV1.ext hX4
    have hE4 := hE3.trans hX4
    refine RL.y rfl (y_mov (by conv => lhs; whnf)) ?_
    refine RL.y rfl (y_ext0 rfl) ?_
    refine RL.y rfl (y_ext1 rfl) ?_
    refine RL.y rfl (y_asg (v := .int _ _) rfl) ?_
    refine RL.y rfl (y_asg (v := .int _ _) rfl) ?_
    refine RL.nil ?_
    refine Fin.next ?_
    refine CW.seq ?_
    refine CW.region ?_
    refine RL.y rfl (y_mov (by conv => lhs; whnf)) ?_
    refine RL.call rfl (toInt64S_any (hs1.ext hE4) (by omega)) ?_
    rintro v w5 ⟨ho5x0, hX5, _⟩
    have hsz5 := hX5.size
    replace ho3x0 := ho3x0.ext hX5
    replace hV1 := hV1.ext hX5
    have hE5 := hE4.trans hX5
    replace ho5x0 := OU.of ho5x0
    refine RL.y rfl (y_asg (by conv => lhs; whnf)) ?_
    refine RL.nil ?_
    refine Fin.next ?_
    refine CW.seq ?_
    refine CW.region ?_
    refine RL.y rfl (y_loads ag40 rfl (eqw (hV1)) rfl) ?_
    refine RL.call rfl (toMaker_any) ?_
    rintro v w6 ⟨rfl, hX6⟩
    have hsz6 := hX6.size
    replace ho3x0 := ho3x0.ext hX6
    replace ho5x0 := ho5x0.ext hX6
    replace hV1 := hV1.ext hX6
    have hE6 := hE5.trans hX6
    refine RL.y rfl (y_mov (by conv => lhs; whnf)) ?_
    refine RL.y rfl (y_mov (v := .int _ _) rfl) ?_
    refine RL.y rfl (y_mov (v := .int _ _) rfl) ?_
    refine RL.call rfl (implWornNb_any ho5x0.sv) ?_
    rintro r w7 ⟨rfl, hX7⟩
    have hsz7 := hX7.size
    replace ho3x0 := ho3x0.ext hX7
    replace ho5x0 := ho5x0.ext hX7
    replace hV1 := hV1.ext hX7
    have hE7 := hE6.trans hX7
    refine RL.y rfl (y_mov (by conv => lhs; whnf)) ?_
    refine RL.y rfl (y_ext0 rfl) ?_
    refine RL.y rfl (y_ext1 rfl) ?_
    refine RL.y rfl (y_asg (v := .int _ _) rfl) ?_
    refine RL.y rfl (y_asg (v := .int _ _) rfl) ?_
    refine RL.nil ?_
    refine Fin.next ?_
    refine CW.seq ?_
    refine CW.seq ?_
    refine CW.region ?_
    refine RL.y rfl (y_mov (v := .int _ _) rfl) ?_
    refine RL.y rfl (y_mov (v := .int _ _) rfl) ?_
    refine RL.y rfl (y_ne rfl rfl) ?_
    refine RL.y rfl (y_mov (v := .bool _) rfl) ?_
    refine RL.force (t := 41) false rfl rfl (by first | (simp; done) | exact decide_eq_false (by omega) | (simp [*]; done) | assumption) ?_
    refine RL.take (t := 41) rfl rfl rfl ?_
    refine RL.y rfl (y_mov (v := .int _ _) rfl) ?_
    refine RL.take (t := 41) rfl rfl rfl ?_
    refine RL.y rfl (y_mov (v := .int _ _) rfl) ?_
    refine RL.take (t := 41) rfl rfl rfl ?_
    refine RL.y rfl (y_ne rfl rfl) ?_
    refine RL.y rfl (y_pickF (v := .bool _) rfl rfl) ?_
    refine RL.nil ?_
    refine Fin.next ?_
    refine CW.condF rfl (by first | (simp; done) | exact decide_eq_false (by omega) | (simp [*]; done) | assumption) ?_
    refine CW.skip ?_
    refine Fin.next ?_
    refine CW.seq ?_
    refine CW.seq ?_
    refine CW.region ?_
    refine RL.y rfl (y_mov (by conv => lhs; whnf)) ?_
    refine RL.y rfl (y_mov (by conv => lhs; whnf)) ?_
    refine RL.call rfl (toInt64S_any (hs1.ext hE7) (by omega)) ?_
    rintro v w8 ⟨ho8x0, hX8, _⟩
    have hsz8 := hX8.size
    replace ho3x0 := ho3x0.ext hX8
    replace ho5x0 := ho5x0.ext hX8
    replace hV1 := hV1.ext hX8
    have hE8 := hE7.trans hX8
    replace ho8x0 := OU.of ho8x0
    refine RL.call rfl (eqInt64S_any ho5x0.sv ho8x0.sv) ?_
    rintro r w9 ⟨rfl, hX9⟩
    have hsz9 := hX9.size
    replace ho3x0 := ho3x0.ext hX9
    replace ho5x0 := ho5x0.ext hX9
    replace ho8x0 := ho8x0.ext hX9
    replace hV1 := hV1.ext hX9
    have hE9 := hE8.trans hX9
    refine RL.y rfl (y_not rfl) ?_
    refine RL.nil ?_
    refine Fin.next ?_
    refine CW.condF rfl (by first | (simp; done) | exact decide_eq_false (by omega) | (simp [*]; done) | assumption) ?_
    refine CW.skip ?_
    refine Fin.next ?_
    refine CW.seq ?_
    refine CW.region ?_
    refine RL.y rfl (y_asg rfl) ?_
    refine RL.nil ?_
    refine Fin.next ?_
    refine CW.ret ?_
    refine Fin.ret1 rfl (by conv => lhs; whnf) ?_
    exact ⟨_, rfl, rfl, hE9⟩
namespace fnExactWornNeighbours
open Go.ChangeShapes Go.WideShapes Go.ChangeAt Go.RowKit
set_option linter.unusedVariables false
theorem own : ownKnob Try.prog.godebug = none := by kernel_rfl
theorem laidOut : laidOutB Try.prog = true := by kernel_rfl
set_option maxRecDepth 100000 in
theorem lifted (os : Os) (started : os.Started) (H : Type) (enc : TypeId × Value → H) :
    ReturnsInHanded {} Try.checked os 8 .any (Rows.fnExactWornNeighboursSpec.pre6 enc Try.prog Try.f8 Rows.fnExactWornNeighboursRow.domain false) (Rows.fnExactWornNeighboursSpec.post enc Try.prog Try.f8 false true false false) := by
  refine returnsInHanded_of_change (C := Try.checked) own started (by kernel_rfl) Try.func8
    (ChangeSpec.witness6 (enc := enc) (C := Try.checked) false ⟨#[], #[.agg #[(.int .i64 0), (.int .i64 0), (.int .i64 0), (.int .i64 0), (.int .i64 0)], .slice none 0 0, .int .i64 0, .int .i64 0], []⟩ 8 (by kernel_rfl) (by kernel_rfl) (by kernel_rfl) (by kernel_rfl)) ?_
  intro W base args ds gs before hval0 hW hcnd _
  have hval : ∀ (j : Nat) t v, Try.f8.params[j]? = some t → args[j]? = some v → Value.okWide Try.prog W .any base t v := hval0
  have hW' := hW
  obtain ⟨p, q, hA0, hV, rfl, hfz, hnd⟩ := hW
  have hA : DataW.TrodAll enc Try.prog W 0 (fun _ => true) true Try.f8.params.toList args.toList ds p := hA0
  rw [Try.params8] at hA hval
  have hkeep := hA
  obtain ⟨v0, vs0, d0, ds0, p0, q0, hargs, rfl, rfl, h0, r0⟩ := trodAll_cons hA
  obtain ⟨v1, vs1, d1, ds1, p1, q1, rfl, rfl, rfl, h1, r1⟩ := trodAll_cons r0
  obtain ⟨v2, vs2, d2, ds2, p2, q2, rfl, rfl, rfl, h2, r2⟩ := trodAll_cons r1
  obtain ⟨v3, vs3, d3, ds3, p3, q3, rfl, rfl, rfl, h3, r3⟩ := trodAll_cons r2
  obtain ⟨rfl, rfl, rfl⟩ := trodAll_nil r3
  obtain rfl : args = #[v0, v1, v2, v3] := by cases args; simp_all
  obtain ⟨rfl, rfl⟩ := trodVars_none hV
  obtain ⟨ma0, mb0, mc0, md0, me0, hag0, wf0⟩ := open_agg5 Try.underlying40 rfl (by kernel_rfl) (by intro f hf; simp only [List.mem_cons, List.not_mem_nil, or_false] at hf; rcases hf with rfl | rfl | rfl | rfl | rfl <;> exact Try.underlying2) (hval 0 40 v0 rfl rfl) h0
  subst hag0
  obtain ⟨xs1, hs1, wf1⟩ := open_SI Try.underlying29 Try.underlying2 (by kernel_rfl) (hval 1 29 v1 rfl rfl) h1
  obtain ⟨a2, rfl, rfl, rfl, w20⟩ := open_int Try.underlying2 (hval 2 2 v2 rfl rfl) h2
  have w2 := I64.of w20
  obtain ⟨a3, rfl, rfl, rfl, w30⟩ := open_int Try.underlying2 (hval 3 2 v3 rfl rfl) h3
  have w3 := I64.of w30
  refine (lawWornNeighbours W ⟨ma0, mb0, mc0, md0, me0⟩ v1 xs1 hs1 wf1 a2 w2 a3 w3).calls.mono fun e W' ⟨r, he, hr, hg⟩ => ?_
  subst hr
  subst he
  exact ⟨_, rfl, _, _, _, [] ++ [], _, [], hW', trodAll_cons_mk (shut_bool Try.underlying4 _) trodAll_mk0, trodAll_ext laidOut (by kernel_rfl) hkeep hg (fun x hx => hW'.lt x (List.mem_append_left _ hx)), rfl, hg.frame _, fun h => by cases h⟩
theorem over : Rows.fnExactWornNeighboursRow.holds Try.pinned (OpenSpec.ofChange Rows.fnExactWornNeighboursSpec) :=
  OpenClaim.holds_of_wide 8 Try.f8 rfl rfl rfl rfl rfl rfl rfl ⟨rfl, rfl, rfl, rfl, rfl⟩ rfl rfl rfl rfl rfl (by kernel_rfl) Try.func8 (by kernel_rfl)
    (of_decide_eq_true (by kernel_rfl)) (by unfold Func.isWrapper; first | (rw [if_pos (by decide +kernel)]; kernel_rfl) | (rw [if_neg (by decide +kernel)]; exact ⟨rfl, rfl⟩))
    (fun os started H enc _ => lifted os started H enc)
theorem proved : Rows.FnExactWornNeighboursSaid := over
end fnExactWornNeighbours
#print axioms fnExactWornNeighbours.proved
end Go.Proofs.Ytaepdknmagaokaa
