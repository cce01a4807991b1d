/-
  The program's CountMayOpen returns what the reference's CountMayOpen returns, for all arguments; the arguments read behind the call as before it. No condition.
-/
import Derived.Test.YtaepdknmagaokaaFOpen
import Derived.Test.YtaepdknmagaokaaFMarkL
import Derived.Test.YtaepdknmagaokaaLift5
import Derived.Test.YtaepdknmagaokaaRows
namespace Go.Proofs.Ytaepdknmagaokaa
open B Go.RowKit

set_option maxRecDepth 8000 in
theorem lawCountMayOpen (w : World) (mk0 : Mk) (v1 : Value) (ss1 : List (List Int)) (hs1 : RdL w v1 ss1) (_ : ∀ r ∈ ss1, ∀ x ∈ r, I64 x) (a2 : Int) (_ : I64 a2) (a3 : Int) (_ : I64 a3) :
    Does Try.prog 10 #[mkA mk0, v1, .int .i64 a2, .int .i64 a3] w (fun r w' => r = .bool true ∧ Ext w w') := by
  skip
  obtain ⟨vl1, rfl, _⟩ := id hs1
  have hT1 := sizeN_tot ss1
  refine enter Try.func10 rfl 54 Try.ntmps10 rfl (by kernel_rfl) ?_
  refine CW.seq ?_
  refine CW.region ?_
  refine RL.box (cs := [.int .i64 mk0.ch, .int .i64 mk0.dp, .int .i64 mk0.st, .int .i64 mk0.sm, .int .i64 mk0.le]) rfl rfl rfl (fun w1 hV1 hX1 => ?_)
  have hsz1 := hX1.size
  have hE1 := hX1
  have hlt1 := hV1.lt
  refine RL.box (cs := [vl1]) rfl rfl rfl (fun w2 hV2 hX2 => ?_)
  have hsz2 := hX2.size
  replace hV1 := hV1.ext hX2
  have hE2 := hE1.trans hX2
  have hlt2 := hV2.lt
  refine RL.y rfl (y_asg rfl) ?_
  refine RL.nil ?_
  refine Fin.next ?_
  refine CW.seq ?_
  refine CW.region ?_
  refine RL.y rfl (y_asg rfl) ?_
  refine RL.nil ?_
  refine Fin.next ?_
  refine CW.seq ?_
  refine CW.region ?_
  refine RL.y rfl (y_loads ag41 rfl (eqw (hV2)) rfl) ?_
  refine RL.y rfl (y_mov (v := .int _ _) rfl) ?_
  refine RL.call rfl (szLock_any (hs1.ext hE2) (by omega) (by omega)) ?_
  rintro r w3 ⟨rfl, hX3⟩
  have hsz3 := hX3.size
  replace hV1 := hV1.ext hX3
  replace hV2 := hV2.ext hX3
  have hE3 := hE2.trans hX3
  refine RL.y rfl (y_asg (v := .int _ _) rfl) ?_
  refine RL.nil ?_
  refine Fin.next ?_
  refine CW.seq ?_
  refine CW.seq ?_
  refine CW.region ?_
  refine RL.y rfl (y_mov (v := .int _ _) rfl) ?_
  refine RL.y rfl (y_lt rfl rfl) ?_
  refine RL.nil ?_
  refine Fin.next ?_
  refine CW.cond rfl rfl (fun hbig1 => ?_) (fun hbig1 => ?_)
  · with_reducible first | (replace hbig1 := deNF hbig1) | (replace hbig1 := of_decide_eq_true hbig1) | (replace hbig1 := of_decide_eq_false hbig1) | (replace hbig1 := deNT hbig1) | (replace hbig1 := deNN hbig1) | (replace hbig1 := bnT hbig1) | (replace hbig1 := bnF hbig1) | skip
    refine CW.seq ?_
    refine CW.region ?_
    refine RL.y rfl (y_asg rfl) ?_
    refine RL.nil ?_
    refine Fin.next ?_
    refine CW.ret ?_
    refine Fin.thenRet ?_
    refine Fin.ret1 rfl (by conv => lhs; whnf) ?_
    exact ⟨_, rfl, rfl, hE3⟩
  · with_reducible first | (replace hbig1 := deNF hbig1) | (replace hbig1 := of_decide_eq_true hbig1) | (replace hbig1 := of_decide_eq_false hbig1) | (replace hbig1 := deNT hbig1) | (replace hbig1 := deNN hbig1) | (replace hbig1 := bnT hbig1) | (replace hbig1 := bnF hbig1) | skip
    obtain ⟨hsz1, hszv1⟩ := szV_ok hbig1
    refine CW.skip ?_
    refine Fin.next ?_
    refine CW.seq ?_
    refine CW.tape (Ext _) [11, 10, 8, 7, 6, 3, 1] mixed (by kernel_rfl) (by kernel_rfl) (Ext.drew _) ?_
    refine TL.y rfl rfl (y_loads ag40 rfl (fun _ hC => (hV1).ext hC) rfl) ?_
    refine TL.op rfl (fun hC => ?_)
    have hD4 := hC
    have hV1z := hV1
    have hV2z := hV2
    replace hV1 := hV1.ext hD4
    replace hV2 := hV2.ext hD4
    have hE4 := hE3.trans hD4
    have hsz4 := hD4.size
    refine RL.call rfl (toMaker_any) ?_
    rintro v w5 ⟨rfl, hX5⟩
    have hsz5 := hX5.size
    replace hV1 := hV1.ext hX5
    replace hV2 := hV2.ext hX5
    have hE5 := hE4.trans hX5
    refine RL.nil ?_
    refine Fin.tl (by first | exact hC | (refine Ext.trans hC ?_; assumption)) ?_
    refine TL.y rfl rfl (y_loads ag41 rfl (fun _ hC => (hV2z).ext hC) rfl) ?_
    refine TL.op rfl (fun hC => ?_)
    refine RL.call rfl (toLock_any (hs1.ext hE5) (by omega)) ?_
    rintro v w6 ⟨ho6x0, hX6⟩
    have hsz6 := hX6.size
    replace hV1 := hV1.ext hX6
    replace hV2 := hV2.ext hX6
    have hE6 := hE5.trans hX6
    replace ho6x0 := OwL.of ho6x0
    obtain ⟨vs6x, rfl, _⟩ := id ho6x0
    refine RL.nil ?_
    refine Fin.tl (by first | exact hC | (refine Ext.trans hC ?_; assumption)) ?_
    refine TL.y rfl rfl (y_mov (v := .int _ _) rfl) ?_
    refine TL.y rfl rfl (y_mov (v := .int _ _) rfl) ?_
    refine TL.op rfl (fun hC => ?_)
    refine RL.call rfl (specCountMayOpen_any ho6x0.rd) ?_
    rintro r w7 ⟨rfl, hX7⟩
    have hsz7 := hX7.size
    replace ho6x0 := ho6x0.ext hX7
    replace hV1 := hV1.ext hX7
    replace hV2 := hV2.ext hX7
    have hE7 := hE6.trans hX7
    refine RL.nil ?_
    refine Fin.tl (by first | exact hC | (refine Ext.trans hC ?_; assumption)) ?_
    refine TL.yc rfl rfl (y_mov (by conv => lhs; whnf)) ?_
    refine TL.yc rfl rfl (y_ext0 rfl) ?_
    refine TL.y rfl rfl (y_ext1 rfl) ?_
    refine TL.yc rfl rfl (y_asg (v := .int _ _) rfl) ?_
    refine TL.yc rfl rfl (y_asg (v := .int _ _) rfl) ?_
    refine TL.nil (fun hC => ?_)
    refine Fin.next ?_
    refine CW.seq ?_
    refine CW.region ?_
    refine RL.y rfl (y_loads ag41 rfl (eqw (hV2)) rfl) ?_
    refine RL.call rfl (toLock_any (hs1.ext hE7) (by omega)) ?_
    rintro v w8 ⟨ho8x0, hX8⟩
    have hsz8 := hX8.size
    replace ho6x0 := ho6x0.ext hX8
    replace hV1 := hV1.ext hX8
    replace hV2 := hV2.ext hX8
    have hE8 := hE7.trans hX8
    replace ho8x0 := OwL.of ho8x0
    obtain ⟨vs8x, rfl, _⟩ := id ho8x0
    refine RL.alloc rfl ze28 (fun w9 hV9 hX9 => ?_)
    have hsz9 := hX9.size
    replace ho6x0 := ho6x0.ext hX9
    replace ho8x0 := ho8x0.ext hX9
    replace hV1 := hV1.ext hX9
    replace hV2 := hV2.ext hX9
    have hE9 := hE8.trans hX9
    have hlt9 := hV9.lt
    refine RL.stores ag28 (hV9) rfl rfl rfl rfl (ho8x0.one) (fun w10 hV10 hg10 => ?_)
    have hM10 := grown_mod (B := w8.heap.size) (U := w8.heap.size + 1) hg10 (fun k e => by simp only [Option.some.injEq] at e; omega)
    have hsz10 := hM10.size
    replace ho6x0 := ho6x0.mod hM10 (by omega)
    replace ho8x0 := ho8x0.mod hM10 (by omega)
    replace hV1 := hV1.mod hM10 (by omega)
    replace hV2 := hV2.mod hM10 (by omega)
    have hE10 := Ext.then_mod hE9 hM10 (by omega)
    refine RL.nil ?_
    refine Fin.next ?_
    refine CW.seq ?_
    refine CW.tape (Ext _) [10, 9, 7, 6, 5, 1] mixed (by kernel_rfl) (by kernel_rfl) (Ext.drew _) ?_
    refine TL.y rfl rfl (y_loads ag40 rfl (fun _ hC => (hV1).ext hC) rfl) ?_
    refine TL.op rfl (fun hC => ?_)
    have hD11 := hC
    have ho6x0z := ho6x0
    have ho8x0z := ho8x0
    have hV1z := hV1
    have hV2z := hV2
    have hV10z := hV10
    replace ho6x0 := ho6x0.ext hD11
    replace ho8x0 := ho8x0.ext hD11
    replace hV1 := hV1.ext hD11
    replace hV2 := hV2.ext hD11
    replace hV10 := hV10.ext hD11
    have hE11 := hE10.trans hD11
    have hsz11 := hD11.size
    refine RL.call rfl (toMaker_any) ?_
    rintro v w12 ⟨rfl, hX12⟩
    have hsz12 := hX12.size
    replace ho6x0 := ho6x0.ext hX12
    replace ho8x0 := ho8x0.ext hX12
    replace hV1 := hV1.ext hX12
    replace hV2 := hV2.ext hX12
    replace hV10 := hV10.ext hX12
    have hE12 := hE11.trans hX12
    refine RL.nil ?_
    refine Fin.tl (by first | exact hC | (refine Ext.trans hC ?_; assumption)) ?_
    refine TL.y rfl rfl (y_loads ag28 rfl (fun _ hC => (hV10z).ext hC) rfl) ?_
    refine TL.y rfl rfl (y_mov (v := .int _ _) rfl) ?_
    refine TL.y rfl rfl (y_mov (v := .int _ _) rfl) ?_
    refine TL.op rfl (fun hC => ?_)
    refine RL.call rfl (implCountMayOpen_any ho8x0.rd) ?_
    rintro r w13 ⟨rfl, hX13⟩
    have hsz13 := hX13.size
    replace ho6x0 := ho6x0.ext hX13
    replace ho8x0 := ho8x0.ext hX13
    replace hV1 := hV1.ext hX13
    replace hV2 := hV2.ext hX13
    replace hV10 := hV10.ext hX13
    have hE13 := hE12.trans hX13
    refine RL.nil ?_
    refine Fin.tl (by first | exact hC | (refine Ext.trans hC ?_; assumption)) ?_
    refine TL.yc rfl rfl (y_mov (by conv => lhs; whnf)) ?_
    refine TL.yc rfl rfl (y_ext0 rfl) ?_
    refine TL.y rfl rfl (y_ext1 rfl) ?_
    refine TL.yc rfl rfl (y_asg (v := .int _ _) rfl) ?_
    refine TL.yc rfl rfl (y_asg (v := .int _ _) rfl) ?_
    refine TL.nil (fun hC => ?_)
    refine Fin.next ?_
    refine CW.seq ?_
    refine CW.seq ?_
    refine CW.region ?_
    refine RL.y rfl (y_mov (v := .int _ _) rfl) ?_
    refine RL.y rfl (y_mov (v := .int _ _) rfl) ?_
    refine RL.y rfl (y_ne rfl rfl) ?_
    refine RL.y rfl (y_mov (v := .bool _) rfl) ?_
    refine RL.force (t := 44) false rfl rfl (by first | (simp; done) | exact decide_eq_false (by omega) | (simp [*]; done) | assumption) ?_
    refine RL.take (t := 44) rfl rfl rfl ?_
    refine RL.y rfl (y_mov (v := .int _ _) rfl) ?_
    refine RL.take (t := 44) rfl rfl rfl ?_
    refine RL.y rfl (y_mov (v := .int _ _) rfl) ?_
    refine RL.take (t := 44) rfl rfl rfl ?_
    refine RL.y rfl (y_ne rfl rfl) ?_
    refine RL.y rfl (y_pickF (v := .bool _) rfl rfl) ?_
    refine RL.nil ?_
    refine Fin.next ?_
    refine CW.condF rfl (by first | (simp; done) | exact decide_eq_false (by omega) | (simp [*]; done) | assumption) ?_
    refine CW.skip ?_
    refine Fin.next ?_
    refine CW.seq ?_
    refine CW.seq ?_
    refine CW.tape (Ext _) [4, 3, 2] mixed (by kernel_rfl) (by kernel_rfl) (Ext.drew _) ?_
    refine TL.y rfl rfl (y_loads ag28 rfl (fun _ hC => (hV10).ext hC) rfl) ?_
    refine TL.y rfl rfl (y_loads ag41 rfl (fun _ hC => (hV2).ext hC) rfl) ?_
    refine TL.op rfl (fun hC => ?_)
    have hD14 := hC
    have ho6x0z := ho6x0
    have ho8x0z := ho8x0
    have hV1z := hV1
    have hV2z := hV2
    have hV10z := hV10
    replace ho6x0 := ho6x0.ext hD14
    replace ho8x0 := ho8x0.ext hD14
    replace hV1 := hV1.ext hD14
    replace hV2 := hV2.ext hD14
    replace hV10 := hV10.ext hD14
    have hE14 := hE13.trans hD14
    have hsz14 := hD14.size
    refine RL.call rfl (toLock_any (hs1.ext hE14) (by omega)) ?_
    rintro v w15 ⟨ho15x0, hX15⟩
    have hsz15 := hX15.size
    replace ho6x0 := ho6x0.ext hX15
    replace ho8x0 := ho8x0.ext hX15
    replace hV1 := hV1.ext hX15
    replace hV2 := hV2.ext hX15
    replace hV10 := hV10.ext hX15
    have hE15 := hE14.trans hX15
    replace ho15x0 := OwL.of ho15x0
    obtain ⟨vs15x, rfl, _⟩ := id ho15x0
    refine RL.nil ?_
    refine Fin.tl (by first | exact hC | (refine Ext.trans hC ?_; assumption)) ?_
    refine TL.op rfl (fun hC => ?_)
    refine RL.call rfl (eqLock_any ho8x0.rd ho15x0.rd) ?_
    rintro r w16 ⟨rfl, hX16⟩
    have hsz16 := hX16.size
    replace ho6x0 := ho6x0.ext hX16
    replace ho8x0 := ho8x0.ext hX16
    replace ho15x0 := ho15x0.ext hX16
    replace hV1 := hV1.ext hX16
    replace hV2 := hV2.ext hX16
    replace hV10 := hV10.ext hX16
    have hE16 := hE15.trans hX16
    refine RL.nil ?_
    refine Fin.tl (by first | exact hC | (refine Ext.trans hC ?_; assumption)) ?_
    refine TL.yc rfl rfl (y_not rfl) ?_
    refine TL.nil (fun hC => ?_)
    refine Fin.next ?_
    refine CW.condF rfl (by first | (simp; done) | exact decide_eq_false (by omega) | (simp [*]; done) | assumption) ?_
    refine CW.skip ?_
    refine Fin.next ?_
    refine CW.seq ?_
    refine CW.region ?_
    refine RL.y rfl (y_asg rfl) ?_
    refine RL.nil ?_
    refine Fin.next ?_
    refine CW.ret ?_
    refine Fin.ret1 rfl (by conv => lhs; whnf) ?_
    exact ⟨_, rfl, rfl, hE16⟩
namespace fnExactCountMayOpen
open Go.ChangeShapes Go.WideShapes Go.ChangeAt Go.RowKit
set_option linter.unusedVariables false
theorem own : ownKnob Try.prog.godebug = none := by kernel_rfl
theorem laidOut : laidOutB Try.prog = true := by kernel_rfl
set_option maxRecDepth 100000 in
theorem lifted (os : Os) (started : os.Started) (H : Type) (enc : TypeId × Value → H) :
    ReturnsInHanded {} Try.checked os 10 .any (Rows.fnExactCountMayOpenSpec.pre6 enc Try.prog Try.f10 Rows.fnExactCountMayOpenRow.domain false) (Rows.fnExactCountMayOpenSpec.post enc Try.prog Try.f10 false true false false) := by
  refine returnsInHanded_of_change (C := Try.checked) own started (by kernel_rfl) Try.func10
    (ChangeSpec.witness6 (enc := enc) (C := Try.checked) false ⟨#[], #[.agg #[(.int .i64 0), (.int .i64 0), (.int .i64 0), (.int .i64 0), (.int .i64 0)], .agg #[(.slice none 0 0)], .int .i64 0, .int .i64 0], []⟩ 8 (by kernel_rfl) (by kernel_rfl) (by kernel_rfl) (by kernel_rfl)) ?_
  intro W base args ds gs before hval0 hW hcnd _
  have hval : ∀ (j : Nat) t v, Try.f10.params[j]? = some t → args[j]? = some v → Value.okWide Try.prog W .any base t v := hval0
  have hW' := hW
  obtain ⟨p, q, hA0, hV, rfl, hfz, hnd⟩ := hW
  have hA : DataW.TrodAll enc Try.prog W 0 (fun _ => true) true Try.f10.params.toList args.toList ds p := hA0
  rw [Try.params10] at hA hval
  have hkeep := hA
  obtain ⟨v0, vs0, d0, ds0, p0, q0, hargs, rfl, rfl, h0, r0⟩ := trodAll_cons hA
  obtain ⟨v1, vs1, d1, ds1, p1, q1, rfl, rfl, rfl, h1, r1⟩ := trodAll_cons r0
  obtain ⟨v2, vs2, d2, ds2, p2, q2, rfl, rfl, rfl, h2, r2⟩ := trodAll_cons r1
  obtain ⟨v3, vs3, d3, ds3, p3, q3, rfl, rfl, rfl, h3, r3⟩ := trodAll_cons r2
  obtain ⟨rfl, rfl, rfl⟩ := trodAll_nil r3
  obtain rfl : args = #[v0, v1, v2, v3] := by cases args; simp_all
  obtain ⟨rfl, rfl⟩ := trodVars_none hV
  obtain ⟨ma0, mb0, mc0, md0, me0, hag0, wf0⟩ := open_agg5 Try.underlying40 rfl (by kernel_rfl) (by intro f hf; simp only [List.mem_cons, List.not_mem_nil, or_false] at hf; rcases hf with rfl | rfl | rfl | rfl | rfl <;> exact Try.underlying2) (hval 0 40 v0 rfl rfl) h0
  subst hag0
  obtain ⟨vl1, yl1, n1, hag1, tl1⟩ := open_agg1 Try.underlying41 rfl (by kernel_rfl) (hval 1 41 v1 rfl rfl) h1
  obtain ⟨ss1, hl1, wf1⟩ := open_RdSSt Try.underlying26 Try.underlying29 Try.underlying2 (by kernel_rfl) (by kernel_rfl) tl1
  obtain ⟨a2, rfl, rfl, rfl, w20⟩ := open_int Try.underlying2 (hval 2 2 v2 rfl rfl) h2
  have w2 := I64.of w20
  obtain ⟨a3, rfl, rfl, rfl, w30⟩ := open_int Try.underlying2 (hval 3 2 v3 rfl rfl) h3
  have w3 := I64.of w30
  refine (lawCountMayOpen W ⟨ma0, mb0, mc0, md0, me0⟩ v1 ss1 ⟨vl1, hag1, hl1⟩ wf1 a2 w2 a3 w3).calls.mono fun e W' ⟨r, he, hr, hg⟩ => ?_
  subst hr
  subst he
  exact ⟨_, rfl, _, _, _, [] ++ [], _, [], hW', trodAll_cons_mk (shut_bool Try.underlying4 _) trodAll_mk0, trodAll_ext laidOut (by kernel_rfl) hkeep hg (fun x hx => hW'.lt x (List.mem_append_left _ hx)), rfl, hg.frame _, fun h => by cases h⟩
theorem over : Rows.fnExactCountMayOpenRow.holds Try.pinned (OpenSpec.ofChange Rows.fnExactCountMayOpenSpec) :=
  OpenClaim.holds_of_wide 10 Try.f10 rfl rfl rfl rfl rfl rfl rfl ⟨rfl, rfl, rfl, rfl, rfl⟩ rfl rfl rfl rfl rfl (by kernel_rfl) Try.func10 (by kernel_rfl)
    (of_decide_eq_true (by kernel_rfl)) (by unfold Func.isWrapper; first | (rw [if_pos (by decide +kernel)]; kernel_rfl) | (rw [if_neg (by decide +kernel)]; exact ⟨rfl, rfl⟩))
    (fun os started H enc _ => lifted os started H enc)
theorem proved : Rows.FnExactCountMayOpenSaid := over
end fnExactCountMayOpen
#print axioms fnExactCountMayOpen.proved
end Go.Proofs.Ytaepdknmagaokaa
