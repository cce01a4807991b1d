/-
  The program's BuildingText returns what the reference's BuildingText returns, for all arguments; the arguments read behind the call as before it. Condition: the listed tables of the library hold what the program's text lays.
-/
import Derived.Test.YtebegkegkdmbjaaDoorFTxt
import Derived.Test.YtebegkegkdmbjaaDoorLift3
import Derived.Test.YtebegkegkdmbjaaDoorRows
import Derived.Test.YtebegkegkdmbjaaDoorCards
import Derived.Test.YtebegkegkdmbjaaDoorTie
import Derived.ProofKit
import Derived.LaidMore
import Derived.OpenShut
import Derived.Stop.Joined
import Derived.SevenTiedAt
namespace Go.Proofs.YtebegkegkdmbjaaDoor
open B Go.RowKit

set_option maxRecDepth 8000 in
theorem lawBuildingText (w : World) (htab : Tb w) (v0 : Value) (ps0 : List Int) (ds0 : List Bool) (hs0 : RdB w v0 ps0 ds0) (_ : ∀ x ∈ ps0, I64 x) :
    Does Tryd.prog 5 #[v0] w (fun r w' => r = .bool true ∧ Ext w w') := by
  obtain ⟨vp0, vd0, rfl, _⟩ := id hs0
  refine enter Tryd.func5 rfl 40 Tryd.ntmps5 rfl (by kernel_rfl) ?_
  refine CW.seq ?_
  refine CW.region ?_
  refine RL.box (cs := [vp0, vd0]) rfl rfl rfl (fun w1 hV1 hX1 => ?_)
  have hsz1 := hX1.size
  have hE1 := hX1
  have hlt1 := hV1.lt
  refine RL.y rfl (y_asg rfl) ?_
  refine RL.nil ?_
  refine Fin.next ?_
  refine CW.seq ?_
  refine CW.region ?_
  refine RL.y rfl (y_asg rfl) ?_
  refine RL.nil ?_
  refine Fin.next ?_
  refine CW.seq ?_
  refine CW.region ?_
  refine RL.y rfl (y_loads ag38 rfl (eqw (hV1)) rfl) ?_
  refine RL.y rfl (y_mov (v := .int _ _) rfl) ?_
  refine RL.call rfl (szBuilding_any (hs0.ext hE1) (by omega) (by omega)) ?_
  rintro r w2 ⟨rfl, hX2⟩
  have hsz2 := hX2.size
  replace hV1 := hV1.ext hX2
  have hE2 := hE1.trans hX2
  refine RL.y rfl (y_asg (v := .int _ _) rfl) ?_
  refine RL.nil ?_
  refine Fin.next ?_
  refine CW.seq ?_
  refine CW.seq ?_
  refine CW.region ?_
  refine RL.y rfl (y_mov (v := .int _ _) rfl) ?_
  refine RL.y rfl (y_lt rfl rfl) ?_
  refine RL.nil ?_
  refine Fin.next ?_
  refine CW.cond rfl rfl (fun hbig1 => ?_) (fun hbig1 => ?_)
  · with_reducible first | (replace hbig1 := deNF hbig1) | (replace hbig1 := of_decide_eq_true hbig1) | (replace hbig1 := of_decide_eq_false hbig1) | (replace hbig1 := deNT hbig1) | (replace hbig1 := deNN hbig1) | (replace hbig1 := bnT hbig1) | (replace hbig1 := bnF hbig1) | skip
    refine CW.seq ?_
    refine CW.region ?_
    refine RL.y rfl (y_asg rfl) ?_
    refine RL.nil ?_
    refine Fin.next ?_
    refine CW.ret ?_
    refine Fin.thenRet ?_
    refine Fin.ret1 rfl (by conv => lhs; whnf) ?_
    exact ⟨_, rfl, rfl, hE2⟩
  · with_reducible first | (replace hbig1 := deNF hbig1) | (replace hbig1 := of_decide_eq_true hbig1) | (replace hbig1 := of_decide_eq_false hbig1) | (replace hbig1 := deNT hbig1) | (replace hbig1 := deNN hbig1) | (replace hbig1 := bnT hbig1) | (replace hbig1 := bnF hbig1) | skip
    obtain ⟨hsz1, hszv1⟩ := szV_ok hbig1
    refine CW.skip ?_
    refine Fin.next ?_
    refine CW.seq ?_
    refine CW.region ?_
    refine RL.y rfl (y_loads ag38 rfl (eqw (hV1)) rfl) ?_
    refine RL.call rfl (toBuilding_any (hs0.ext hE2) (by omega)) ?_
    rintro v w3 ⟨ho3x0, hX3⟩
    have hsz3 := hX3.size
    replace hV1 := hV1.ext hX3
    have hE3 := hE2.trans hX3
    replace ho3x0 := OwB.of ho3x0
    obtain ⟨vp3x, vd3x, rfl, _⟩ := id ho3x0
    refine RL.call rfl (specBuildingText_any ho3x0.rd) ?_
    rintro r w4 ⟨rfl, hX4⟩
    have hsz4 := hX4.size
    replace ho3x0 := ho3x0.ext hX4
    replace hV1 := hV1.ext hX4
    have hE4 := hE3.trans hX4
    refine RL.y rfl (y_mov (by conv => lhs; whnf)) ?_
    refine RL.y rfl (y_ext0 rfl) ?_
    refine RL.y rfl (y_ext1 rfl) ?_
    refine RL.y rfl (y_asg (v := .string _) rfl) ?_
    refine RL.y rfl (y_asg (v := .int _ _) rfl) ?_
    refine RL.nil ?_
    refine Fin.next ?_
    refine CW.seq ?_
    refine CW.region ?_
    refine RL.y rfl (y_loads ag38 rfl (eqw (hV1)) rfl) ?_
    refine RL.call rfl (toBuilding_any (hs0.ext hE4) (by omega)) ?_
    rintro v w5 ⟨ho5x0, hX5⟩
    have hsz5 := hX5.size
    replace ho3x0 := ho3x0.ext hX5
    replace hV1 := hV1.ext hX5
    have hE5 := hE4.trans hX5
    replace ho5x0 := OwB.of ho5x0
    obtain ⟨vp5x, vd5x, rfl, _⟩ := id ho5x0
    refine RL.alloc rfl ze25 (fun w6 hV6 hX6 => ?_)
    have hsz6 := hX6.size
    replace ho3x0 := ho3x0.ext hX6
    replace ho5x0 := ho5x0.ext hX6
    replace hV1 := hV1.ext hX6
    have hE6 := hE5.trans hX6
    have hlt6 := hV6.lt
    refine RL.stores ag25 (hV6) rfl rfl rfl rfl (ho5x0.one) (fun w7 hV7 hg7 => ?_)
    have hM7 := grown_mod (B := w5.heap.size) (U := w5.heap.size + 1) hg7 (fun k e => by simp only [Option.some.injEq] at e; omega)
    have hsz7 := hM7.size
    replace ho3x0 := ho3x0.mod hM7 (by omega)
    replace ho5x0 := ho5x0.mod hM7 (by omega)
    replace hV1 := hV1.mod hM7 (by omega)
    have hE7 := Ext.then_mod hE6 hM7 (by omega)
    refine RL.nil ?_
    refine Fin.next ?_
    refine CW.seq ?_
    refine CW.region ?_
    refine RL.y rfl (y_loads ag25 rfl (eqw (hV7)) rfl) ?_
    refine RL.call rfl (implBuildingText_any (htab.ext hE7) ho5x0.rd) ?_
    rintro r w8 ⟨rfl, hX8⟩
    have hsz8 := hX8.size
    replace ho3x0 := ho3x0.ext hX8
    replace ho5x0 := ho5x0.ext hX8
    replace hV1 := hV1.ext hX8
    replace hV7 := hV7.ext hX8
    have hE8 := hE7.trans hX8
    refine RL.y rfl (y_mov (by conv => lhs; whnf)) ?_
    refine RL.y rfl (y_ext0 rfl) ?_
    refine RL.y rfl (y_ext1 rfl) ?_
    refine RL.y rfl (y_asg (v := .string _) rfl) ?_
    refine RL.y rfl (y_asg (v := .int _ _) rfl) ?_
    refine RL.nil ?_
    refine Fin.next ?_
    refine CW.seq ?_
    refine CW.seq ?_
    refine CW.region ?_
    refine RL.y rfl (y_mov (v := .string _) rfl) ?_
    refine RL.y rfl (y_mov (v := .string _) rfl) ?_
    refine RL.y rfl (y_sne rfl rfl) ?_
    refine RL.y rfl (y_mov (v := .bool _) rfl) ?_
    refine RL.force (t := 30) false rfl rfl (by first | (simp; done) | exact decide_eq_false (by omega) | (simp [*]; done) | assumption) ?_
    refine RL.take (t := 30) rfl rfl rfl ?_
    refine RL.y rfl (y_mov (v := .int _ _) rfl) ?_
    refine RL.take (t := 30) rfl rfl rfl ?_
    refine RL.y rfl (y_mov (v := .int _ _) rfl) ?_
    refine RL.take (t := 30) rfl rfl rfl ?_
    refine RL.y rfl (y_ne rfl rfl) ?_
    refine RL.y rfl (y_pickF (v := .bool _) rfl rfl) ?_
    refine RL.nil ?_
    refine Fin.next ?_
    refine CW.condF rfl (by first | (simp; done) | exact decide_eq_false (by omega) | (simp [*]; done) | assumption) ?_
    refine CW.skip ?_
    refine Fin.next ?_
    refine CW.seq ?_
    refine CW.seq ?_
    refine CW.tape (Ext _) [4, 3, 2] mixed (by kernel_rfl) (by kernel_rfl) (Ext.drew _) ?_
    refine TL.y rfl rfl (y_loads ag25 rfl (fun _ hC => (hV7).ext hC) rfl) ?_
    refine TL.y rfl rfl (y_loads ag38 rfl (fun _ hC => (hV1).ext hC) rfl) ?_
    refine TL.op rfl (fun hC => ?_)
    have hD9 := hC
    have ho3x0z := ho3x0
    have ho5x0z := ho5x0
    have hV1z := hV1
    have hV7z := hV7
    replace ho3x0 := ho3x0.ext hD9
    replace ho5x0 := ho5x0.ext hD9
    replace hV1 := hV1.ext hD9
    replace hV7 := hV7.ext hD9
    have hE9 := hE8.trans hD9
    have hsz9 := hD9.size
    refine RL.call rfl (toBuilding_any (hs0.ext hE9) (by omega)) ?_
    rintro v w10 ⟨ho10x0, hX10⟩
    have hsz10 := hX10.size
    replace ho3x0 := ho3x0.ext hX10
    replace ho5x0 := ho5x0.ext hX10
    replace hV1 := hV1.ext hX10
    replace hV7 := hV7.ext hX10
    have hE10 := hE9.trans hX10
    replace ho10x0 := OwB.of ho10x0
    obtain ⟨vp10x, vd10x, rfl, _⟩ := id ho10x0
    refine RL.nil ?_
    refine Fin.tl (by first | exact hC | (refine Ext.trans hC ?_; assumption)) ?_
    refine TL.op rfl (fun hC => ?_)
    refine RL.call rfl (eqBuilding_any ho5x0.rd ho10x0.rd) ?_
    rintro r w11 ⟨rfl, hX11⟩
    have hsz11 := hX11.size
    replace ho3x0 := ho3x0.ext hX11
    replace ho5x0 := ho5x0.ext hX11
    replace ho10x0 := ho10x0.ext hX11
    replace hV1 := hV1.ext hX11
    replace hV7 := hV7.ext hX11
    have hE11 := hE10.trans hX11
    refine RL.nil ?_
    refine Fin.tl (by first | exact hC | (refine Ext.trans hC ?_; assumption)) ?_
    refine TL.yc rfl rfl (y_not rfl) ?_
    refine TL.nil (fun hC => ?_)
    refine Fin.next ?_
    refine CW.condF rfl (by first | (simp; done) | exact decide_eq_false (by omega) | (simp [*]; done) | assumption) ?_
    refine CW.skip ?_
    refine Fin.next ?_
    refine CW.seq ?_
    refine CW.region ?_
    refine RL.y rfl (y_asg rfl) ?_
    refine RL.nil ?_
    refine Fin.next ?_
    refine CW.ret ?_
    refine Fin.ret1 rfl (by conv => lhs; whnf) ?_
    exact ⟨_, rfl, rfl, hE11⟩
/-- What the condition gives the walk. -/
theorem fnExactBuildingText.of_laid {W : World} (h : laidMetH Tryd.prog Rows.fnExactBuildingTextRow.laid W) : Tb W := by
  rw [MakeChecks.laidMetH_plain _ _ _ (by kernel_rfl)] at h
  obtain ⟨ps, ⟨g0, t0, cs0, f0, p0, q0, hg0, ht0, hv0, hd0, ⟨g1, t1, cs1, f1, p1, q1, hg1, ht1, hv1, hd1, ⟨g2, t2, cs2, f2, p2, q2, hg2, ht2, hv2, hd2, _, _⟩, _⟩, _⟩, _, _⟩ := h
  have hd : DataW.trod _ Tryd.prog W 0 _ false f2 t2 cs2.toList = some (Lib.tabData .u64 Lib.pow10Tab, _) := hd2
  have hgt : Tryd.prog.globalNamed pw10 = some g2 := hg2
  obtain rfl : g2 = 3 := Option.some.inj (hgt.symm.trans (by kernel_rfl))
  obtain rfl : t2 = 112 := Option.some.inj (ht2.symm.trans (by kernel_rfl))
  show World.var? Tryd.prog W pw10 = _
  rw [show World.var? Tryd.prog W pw10 = some cs2 from hv2, ← Lib.cells_of_tab Tryd.underlying112 (by exact Tryd.underlying89) (by kernel_rfl) (by kernel_rfl) hd]
namespace fnExactBuildingText
open Go.ChangeShapes Go.WideShapes Go.ChangeAt Go.RowKit
set_option linter.unusedVariables false
theorem own : ownKnob Tryd.prog.godebug = none := by kernel_rfl
theorem laidOut : laidOutB Tryd.prog = true := by kernel_rfl
theorem door_met (os : Os) (args : Array Value) : laidMetH Tryd.prog Rows.fnExactBuildingTextRow.laid ((World.doorLaid Tryd.prog 72 os).forCall (fun _ _ => 0) ⟨#[], args, []⟩).memory :=
  laidMetH_of_parts3 (fuel := 8) (laidMet_of_run' 8 (by kernel_rfl) (by kernel_rfl)) (by kernel_rfl) (by kernel_rfl)
set_option maxRecDepth 100000 in
theorem lifted (os : Os) (started : os.Started) (H : Type) (enc : TypeId × Value → H) :
    ReturnsInHanded {} Tryd.checked os 5 .any (fun w args => (Rows.fnExactBuildingTextSpec.pre enc Tryd.prog Tryd.f5 [] false w args ∧ laidMetH Tryd.prog Rows.fnExactBuildingTextRow.laid w) ∧ sizedMet enc Tryd.prog Tryd.f5 (OpenSpec.ofChange Rows.fnExactBuildingTextSpec) false w args)
      (Rows.fnExactBuildingTextSpec.post enc Tryd.prog Tryd.f5 false true false false) := by
  refine returnsInHanded_of_change_and (C := Tryd.checked) (X := fun w _ => laidMetH Tryd.prog Rows.fnExactBuildingTextRow.laid w) (fun _ _ _ hh h => h.of_heap hh) own started (by kernel_rfl) Tryd.func5
    (ChangeSpec.witness_shaped (enc := enc) (C := Tryd.checked) (os := os) (X := fun w _ => laidMetH Tryd.prog Rows.fnExactBuildingTextRow.laid w) false (World.doorLaid Tryd.prog 72 os) #[.agg #[(.slice none 0 0), (.slice none 0 0)]] 8 rfl (World.shaped_of_RefB (by kernel_rfl) (by kernel_rfl)) (by kernel_rfl) (by kernel_rfl) (by kernel_rfl) (door_met os _)) ?_
  intro W base args ds gs before hval0 hW _ _ hL _
  have hfacts := of_laid hL
  have hval : ∀ (j : Nat) t v, Tryd.f5.params[j]? = some t → args[j]? = some v → Value.okWide Tryd.prog W .any base t v := hval0
  have hW' := hW
  obtain ⟨p, q, hA0, hV, rfl, hfz, hnd⟩ := hW
  have hA : DataW.TrodAll enc Tryd.prog W 0 (fun _ => true) true Tryd.f5.params.toList args.toList ds p := hA0
  rw [Tryd.params5] at hA hval
  have hkeep := hA
  obtain ⟨v0, vs0, d0, ds0, p0, q0, hargs, rfl, rfl, h0, r0⟩ := trodAll_cons hA
  obtain ⟨rfl, rfl, rfl⟩ := trodAll_nil r0
  obtain rfl : args = #[v0] := by cases args; simp_all
  obtain ⟨rfl, rfl⟩ := trodVars_none hV
  obtain ⟨vp0, vd0, yp0, yd0, n0, hag0, _, _, tp0, td0⟩ := Go.Joins.open_agg2 Tryd.underlying38 (by kernel_rfl) (by kernel_rfl) (hval 0 38 v0 rfl rfl) h0
  obtain ⟨ps0, hp0, wf0⟩ := open_SIt Tryd.underlying22 Tryd.underlying2 (by kernel_rfl) tp0
  obtain ⟨ds0, hd0⟩ := open_SBt Tryd.underlying23 Tryd.underlying4 (by kernel_rfl) td0
  refine (lawBuildingText W hfacts v0 ps0 ds0 ⟨vp0, vd0, hag0, hp0, hd0⟩ wf0).calls.mono fun e W' ⟨r, he, hr, hg⟩ => ?_
  subst hr
  subst he
  exact ⟨_, rfl, _, _, _, [] ++ [], _, [], hW', trodAll_cons_mk (shut_bool Tryd.underlying4 _) trodAll_mk0, trodAll_ext laidOut (by kernel_rfl) hkeep hg (fun x hx => hW'.lt x (List.mem_append_left _ hx)), rfl, hg.frame _, fun h => by cases h⟩
theorem over : Rows.fnExactBuildingTextRow.holds Tryd.pinned (OpenSpec.ofChange Rows.fnExactBuildingTextSpec) :=
  OpenClaim.holds_of_wide 5 Tryd.f5 rfl rfl rfl rfl rfl rfl rfl ⟨rfl, rfl, rfl, rfl, rfl⟩ rfl rfl rfl rfl rfl (by kernel_rfl) Tryd.func5 (by kernel_rfl)
    (of_decide_eq_true (by kernel_rfl)) (by unfold Func.isWrapper; first | (rw [if_pos (by decide +kernel)]; kernel_rfl) | (rw [if_neg (by decide +kernel)]; exact ⟨rfl, rfl⟩))
    (fun os started H enc _ => lifted os started H enc)
theorem carded : Rows.FnExactBuildingTextCardSaid :=
  Claim7.holds_tied_plain_at .later [] Rows.fnExactBuildingTextCard.laidKinds true Rows.fnExactBuildingTextCard.stood.harness true
    over (fun _ h => by cases h) (by kernel_rfl) (fun _ h => by cases h) fnExactBuildingText_row_tie rfl ⟨rfl, rfl⟩ (by kernel_rfl) rfl
    (fun f fn hf hfn => by
      obtain rfl : f = 5 := Option.some.inj ((show Tryd.prog.funcNamed Rows.fnExactBuildingTextRow.func = some 5 by kernel_rfl).symm.trans hf) |>.symm
      obtain rfl : fn = Tryd.f5 := (Option.some.inj (Tryd.func5.symm.trans hfn)).symm
      exact ⟨by kernel_rfl, fun j t ht => by
        rw [Tryd.params5] at ht
        have hm : t ∈ [38] := by simpa using Array.mem_of_getElem? ht
        have hall : ([38].all fun u => !Tryd.prog.wantsStandIn u) = true := by kernel_rfl
        exact (show Tryd.prog.wantsStandIn t = false by simpa using List.all_eq_true.1 hall t hm)⟩)
    (by kernel_rfl)
theorem proved : Rows.FnExactBuildingTextCardSaid := carded
end fnExactBuildingText
#print axioms fnExactBuildingText.proved
end Go.Proofs.YtebegkegkdmbjaaDoor
