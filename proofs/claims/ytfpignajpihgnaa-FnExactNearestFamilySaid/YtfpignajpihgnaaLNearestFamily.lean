/-
  The program's NearestFamily returns what the reference's NearestFamily returns, for all arguments; the arguments read behind the call as before it. No condition.
-/
import Derived.Test.YtfpignajpihgnaaFSide3
import Derived.Test.YtfpignajpihgnaaLift
import Derived.Test.YtfpignajpihgnaaRows
namespace Go.Proofs.Ytfpignajpihgnaa
open B Go.RowKit

theorem lawNearestFamily (w : World) (a0 : Int) (_ : I64 a0) (a1 : Int) (_ : I64 a1) (a2 : Int) (_ : I64 a2) (v3 : Value) (xs3 : List Int) (hs3 : SI w v3 xs3) (_ : ∀ x ∈ xs3, I64 x) :
    Does Try.prog 10 #[.int .i64 a0, .int .i64 a1, .int .i64 a2, v3] w (fun r w' => r = .bool true ∧ Ext w w') := by
  have hR := nfV_len a0 a1 a2 xs3
  refine enter Try.func10 rfl 108 Try.ntmps10 rfl (by kernel_rfl) ?_
  refine CW.seq ?_
  refine CW.region ?_
  refine RL.y rfl (y_asg rfl) ?_
  refine RL.nil ?_
  refine Fin.next ?_
  refine CW.seq ?_
  refine CW.seq ?_
  refine CW.region ?_
  refine RL.y rfl (y_mov (by conv => lhs; whnf)) ?_
  refine RL.y rfl (y_len sT25 hs3 (ints_len _) rfl) ?_
  refine RL.y rfl (y_gt rfl rfl) ?_
  refine RL.nil ?_
  refine Fin.next ?_
  refine CW.cond rfl rfl (fun hbig1 => ?_) (fun hbig1 => ?_)
  · with_reducible first | (replace hbig1 := deNF hbig1) | (replace hbig1 := of_decide_eq_true hbig1) | (replace hbig1 := of_decide_eq_false hbig1) | (replace hbig1 := deNT hbig1) | (replace hbig1 := deNN hbig1) | (replace hbig1 := bnT hbig1) | (replace hbig1 := bnF hbig1) | skip
    refine CW.seq ?_
    refine CW.region ?_
    refine RL.y rfl (y_asg rfl) ?_
    refine RL.nil ?_
    refine Fin.next ?_
    refine CW.ret ?_
    refine Fin.thenRet ?_
    refine Fin.ret1 rfl (by conv => lhs; whnf) ?_
    exact ⟨_, rfl, rfl, (Ext.refl w)⟩
  · with_reducible first | (replace hbig1 := deNF hbig1) | (replace hbig1 := of_decide_eq_true hbig1) | (replace hbig1 := of_decide_eq_false hbig1) | (replace hbig1 := deNT hbig1) | (replace hbig1 := deNN hbig1) | (replace hbig1 := bnT hbig1) | (replace hbig1 := bnF hbig1) | skip
    refine CW.skip ?_
    refine Fin.next ?_
    refine CW.seq ?_
    refine CW.region ?_
    refine RL.y rfl (y_mov (v := .int _ _) rfl) ?_
    refine RL.y rfl (y_mov (v := .int _ _) rfl) ?_
    refine RL.y rfl (y_mov (v := .int _ _) rfl) ?_
    refine RL.y rfl (y_mov (by conv => lhs; whnf)) ?_
    refine RL.call rfl (toInt64S_any (hs3.ext (Ext.refl w)) (by omega)) ?_
    rintro v w1 ⟨ho1x0, hX1, _⟩
    have hsz1 := hX1.size
    have hE1 := hX1
    replace ho1x0 := OU.of ho1x0
    refine RL.call rfl (specNearestFamily_any ho1x0.sv) ?_
    rintro r w2 ⟨v12, rfl, ho2x1, hX2⟩
    have hsz2 := hX2.size
    replace ho1x0 := ho1x0.ext hX2
    have hE2 := hE1.trans hX2
    replace ho2x1 := OU.of ho2x1
    refine RL.y rfl (y_mov (by conv => lhs; whnf)) ?_
    refine RL.y rfl (y_ext0 rfl) ?_
    refine RL.y rfl (y_ext1 rfl) ?_
    refine RL.y rfl (y_asg (by conv => lhs; whnf)) ?_
    refine RL.y rfl (y_asg (v := .int _ _) rfl) ?_
    refine RL.nil ?_
    refine Fin.next ?_
    refine CW.seq ?_
    refine CW.region ?_
    refine RL.y rfl (y_mov (by conv => lhs; whnf)) ?_
    refine RL.call rfl (toInt64S_any (hs3.ext hE2) (by omega)) ?_
    rintro v w3 ⟨ho3x0, hX3, _⟩
    have hsz3 := hX3.size
    replace ho1x0 := ho1x0.ext hX3
    replace ho2x1 := ho2x1.ext hX3
    have hE3 := hE2.trans hX3
    replace ho3x0 := OU.of ho3x0
    refine RL.y rfl (y_asg (by conv => lhs; whnf)) ?_
    refine RL.nil ?_
    refine Fin.next ?_
    refine CW.seq ?_
    refine CW.region ?_
    refine RL.y rfl (y_mov (v := .int _ _) rfl) ?_
    refine RL.y rfl (y_mov (v := .int _ _) rfl) ?_
    refine RL.y rfl (y_mov (v := .int _ _) rfl) ?_
    refine RL.y rfl (y_mov (by conv => lhs; whnf)) ?_
    refine RL.call rfl (implNearestFamily_any ho3x0.sv) ?_
    rintro r w4 ⟨v14, rfl, ho4x1, hX4⟩
    have hsz4 := hX4.size
    replace ho1x0 := ho1x0.ext hX4
    replace ho2x1 := ho2x1.ext hX4
    replace ho3x0 := ho3x0.ext hX4
    have hE4 := hE3.trans hX4
    replace ho4x1 := OU.of ho4x1
    refine RL.y rfl (y_mov (by conv => lhs; whnf)) ?_
    refine RL.y rfl (y_ext0 rfl) ?_
    refine RL.y rfl (y_ext1 rfl) ?_
    refine RL.y rfl (y_asg (by conv => lhs; whnf)) ?_
    refine RL.y rfl (y_asg (v := .int _ _) rfl) ?_
    refine RL.nil ?_
    refine Fin.next ?_
    refine CW.seq ?_
    refine CW.seq ?_
    refine CW.region ?_
    refine RL.y rfl (y_mov (by conv => lhs; whnf)) ?_
    refine RL.y rfl (y_mov (by conv => lhs; whnf)) ?_
    refine RL.call rfl (eqInt64S_any ho4x1.sv ho2x1.sv) ?_
    rintro r w5 ⟨rfl, hX5⟩
    have hsz5 := hX5.size
    replace ho1x0 := ho1x0.ext hX5
    replace ho2x1 := ho2x1.ext hX5
    replace ho3x0 := ho3x0.ext hX5
    replace ho4x1 := ho4x1.ext hX5
    have hE5 := hE4.trans hX5
    refine RL.y rfl (y_not rfl) ?_
    refine RL.y rfl (y_mov (v := .bool _) rfl) ?_
    refine RL.force (t := 45) false rfl rfl (by first | (simp; done) | exact decide_eq_false (by omega)) ?_
    refine RL.take (t := 45) rfl rfl rfl ?_
    refine RL.y rfl (y_mov (v := .int _ _) rfl) ?_
    refine RL.take (t := 45) rfl rfl rfl ?_
    refine RL.y rfl (y_mov (v := .int _ _) rfl) ?_
    refine RL.take (t := 45) rfl rfl rfl ?_
    refine RL.y rfl (y_ne rfl rfl) ?_
    refine RL.y rfl (y_pickF (v := .bool _) rfl rfl) ?_
    refine RL.nil ?_
    refine Fin.next ?_
    refine CW.condF rfl (by first | (simp; done) | exact decide_eq_false (by omega)) ?_
    refine CW.skip ?_
    refine Fin.next ?_
    refine CW.seq ?_
    refine CW.seq ?_
    refine CW.region ?_
    refine RL.y rfl (y_mov (by conv => lhs; whnf)) ?_
    refine RL.y rfl (y_mov (by conv => lhs; whnf)) ?_
    refine RL.call rfl (toInt64S_any (hs3.ext hE5) (by omega)) ?_
    rintro v w6 ⟨ho6x0, hX6, _⟩
    have hsz6 := hX6.size
    replace ho1x0 := ho1x0.ext hX6
    replace ho2x1 := ho2x1.ext hX6
    replace ho3x0 := ho3x0.ext hX6
    replace ho4x1 := ho4x1.ext hX6
    have hE6 := hE5.trans hX6
    replace ho6x0 := OU.of ho6x0
    refine RL.call rfl (eqInt64S_any ho3x0.sv ho6x0.sv) ?_
    rintro r w7 ⟨rfl, hX7⟩
    have hsz7 := hX7.size
    replace ho1x0 := ho1x0.ext hX7
    replace ho2x1 := ho2x1.ext hX7
    replace ho3x0 := ho3x0.ext hX7
    replace ho4x1 := ho4x1.ext hX7
    replace ho6x0 := ho6x0.ext hX7
    have hE7 := hE6.trans hX7
    refine RL.y rfl (y_not rfl) ?_
    refine RL.nil ?_
    refine Fin.next ?_
    refine CW.condF rfl (by first | (simp; done) | exact decide_eq_false (by omega)) ?_
    refine CW.skip ?_
    refine Fin.next ?_
    refine CW.seq ?_
    refine CW.region ?_
    refine RL.y rfl (y_asg rfl) ?_
    refine RL.nil ?_
    refine Fin.next ?_
    refine CW.seq ?_
    refine CW.region ?_
    refine RL.y rfl (y_mov (by conv => lhs; whnf)) ?_
    refine RL.y rfl (y_mov (v := .int _ _) rfl) ?_
    refine RL.call rfl (markI_own ho3x0 (by omega) (by omega)) ?_
    rintro r w8 ⟨xs8, k8, rfl, ho8, hh8, hk8, hl8, hM8⟩
    replace ho1x0 := ho1x0.mod hM8 (by omega)
    replace ho2x1 := ho2x1.mod hM8 (by omega)
    replace ho4x1 := ho4x1.mod hM8 (by omega)
    replace ho6x0 := ho6x0.mod hM8 (by omega)
    have hE8 := Ext.then_mod hE7 hM8 (by omega)
    clear ho3x0
    refine RL.y rfl (y_asg (v := .int _ _) rfl) ?_
    refine RL.nil ?_
    refine Fin.next ?_
    refine CW.seq ?_
    refine CW.seq ?_
    refine CW.region ?_
    refine RL.y rfl (y_mov (v := .int _ _) rfl) ?_
    refine RL.y rfl (y_lt rfl rfl) ?_
    refine RL.y rfl (y_mov (v := .bool _) rfl) ?_
    refine RL.force (t := 60) false rfl rfl (by first | (simp; done) | exact decide_eq_false (by omega)) ?_
    refine RL.take (t := 60) rfl rfl rfl ?_
    refine RL.y rfl (y_mov (by conv => lhs; whnf)) ?_
    refine RL.take (t := 60) rfl rfl rfl ?_
    refine RL.y rfl (y_mov (by conv => lhs; whnf)) ?_
    refine RL.take (t := 60) rfl rfl rfl ?_
    refine RL.call rfl (eqInt64S_any ho4x1.sv ho2x1.sv) ?_
    rintro r w9 ⟨rfl, hX9⟩
    have hsz9 := hX9.size
    replace ho1x0 := ho1x0.ext hX9
    replace ho2x1 := ho2x1.ext hX9
    replace ho8 := ho8.ext hX9
    replace ho4x1 := ho4x1.ext hX9
    replace ho6x0 := ho6x0.ext hX9
    have hE9 := hE8.trans hX9
    refine RL.take (t := 60) rfl rfl rfl ?_
    refine RL.y rfl (y_not rfl) ?_
    refine RL.y rfl (y_pickF (v := .bool _) rfl rfl) ?_
    refine RL.y rfl (y_mov (v := .bool _) rfl) ?_
    refine RL.force (t := 66) false rfl rfl (by first | (simp; done) | exact decide_eq_false (by omega)) ?_
    refine RL.take (t := 66) rfl rfl rfl ?_
    refine RL.y rfl (y_mov (v := .int _ _) rfl) ?_
    refine RL.take (t := 66) rfl rfl rfl ?_
    refine RL.y rfl (y_mov (v := .int _ _) rfl) ?_
    refine RL.take (t := 66) rfl rfl rfl ?_
    refine RL.y rfl (y_ne rfl rfl) ?_
    refine RL.y rfl (y_pickF (v := .bool _) rfl rfl) ?_
    refine RL.nil ?_
    refine Fin.next ?_
    refine CW.condF rfl (by first | (simp; done) | exact decide_eq_false (by omega)) ?_
    refine CW.skip ?_
    refine Fin.next ?_
    refine CW.seq ?_
    refine CW.region ?_
    refine RL.y rfl (y_asg rfl) ?_
    refine RL.nil ?_
    refine Fin.next ?_
    refine CW.seq ?_
    refine CW.region ?_
    refine RL.y rfl (y_mov (by conv => lhs; whnf)) ?_
    refine RL.y rfl (y_mov (v := .int _ _) rfl) ?_
    refine RL.call rfl (markI_own ho4x1 (by omega) (by omega)) ?_
    rintro r w10 ⟨xs10, k10, rfl, ho10, hh10, hk10, hl10, hM10⟩
    replace ho1x0 := ho1x0.mod hM10 (by omega)
    replace ho2x1 := ho2x1.mod hM10 (by omega)
    replace ho8 := ho8.mod hM10 (by omega)
    replace ho6x0 := ho6x0.mod hM10 (by omega)
    have hE10 := Ext.then_mod hE9 hM10 (by omega)
    clear ho4x1
    refine RL.y rfl (y_asg (v := .int _ _) rfl) ?_
    refine RL.nil ?_
    refine Fin.next ?_
    refine CW.seq ?_
    refine CW.region ?_
    refine RL.y rfl (y_asg rfl) ?_
    refine RL.nil ?_
    refine Fin.next ?_
    refine CW.seq ?_
    refine CW.region ?_
    refine RL.y rfl (y_mov (by conv => lhs; whnf)) ?_
    refine RL.y rfl (y_mov (v := .int _ _) rfl) ?_
    refine RL.call rfl (heldInt64S_any ho10.sv (by omega) (by omega)) ?_
    rintro r w11 ⟨rfl, hX11⟩
    have hsz11 := hX11.size
    replace ho1x0 := ho1x0.ext hX11
    replace ho2x1 := ho2x1.ext hX11
    replace ho8 := ho8.ext hX11
    replace ho10 := ho10.ext hX11
    replace ho6x0 := ho6x0.ext hX11
    have hE11 := hE10.trans hX11
    refine RL.y rfl (y_asg (v := .int _ _) rfl) ?_
    refine RL.nil ?_
    refine Fin.next ?_
    refine CW.seq ?_
    refine CW.seq ?_
    refine CW.region ?_
    refine RL.y rfl (y_mov (v := .int _ _) rfl) ?_
    refine RL.y rfl (y_lt rfl rfl) ?_
    refine RL.nil ?_
    refine Fin.next ?_
    refine CW.condF rfl (by first | (simp; done) | exact decide_eq_false (by omega)) ?_
    refine CW.skip ?_
    refine Fin.next ?_
    refine CW.seq ?_
    refine CW.seq ?_
    refine CW.region ?_
    refine RL.y rfl (y_mov (v := .int _ _) rfl) ?_
    refine RL.y rfl (y_mov (v := .int _ _) rfl) ?_
    refine RL.y rfl (y_ne rfl rfl) ?_
    refine RL.nil ?_
    refine Fin.next ?_
    refine CW.condF rfl (by first | (simp; done) | exact decide_eq_false (by omega)) ?_
    refine CW.skip ?_
    refine Fin.next ?_
    refine CW.seq ?_
    refine CW.region ?_
    refine RL.y rfl (y_mov (v := .int _ _) rfl) ?_
    refine RL.y rfl (y_mov (v := .int _ _) rfl) ?_
    refine RL.y rfl (y_mov (v := .int _ _) rfl) ?_
    refine RL.y rfl (y_mov (by conv => lhs; whnf)) ?_
    refine RL.call rfl (toInt64S_any (hs3.ext hE11) (by omega)) ?_
    rintro v w12 ⟨ho12x0, hX12, _⟩
    have hsz12 := hX12.size
    replace ho1x0 := ho1x0.ext hX12
    replace ho2x1 := ho2x1.ext hX12
    replace ho8 := ho8.ext hX12
    replace ho10 := ho10.ext hX12
    replace ho6x0 := ho6x0.ext hX12
    have hE12 := hE11.trans hX12
    replace ho12x0 := OU.of ho12x0
    refine RL.call rfl (implNearestFamily_any ho12x0.sv) ?_
    rintro r w13 ⟨v113, rfl, ho13x1, hX13⟩
    have hsz13 := hX13.size
    replace ho1x0 := ho1x0.ext hX13
    replace ho2x1 := ho2x1.ext hX13
    replace ho8 := ho8.ext hX13
    replace ho10 := ho10.ext hX13
    replace ho6x0 := ho6x0.ext hX13
    replace ho12x0 := ho12x0.ext hX13
    have hE13 := hE12.trans hX13
    replace ho13x1 := OU.of ho13x1
    refine RL.y rfl (y_mov (by conv => lhs; whnf)) ?_
    refine RL.y rfl (y_ext0 rfl) ?_
    refine RL.y rfl (y_ext1 rfl) ?_
    refine RL.y rfl (y_asg (by conv => lhs; whnf)) ?_
    refine RL.y rfl (y_asg (v := .int _ _) rfl) ?_
    refine RL.nil ?_
    refine Fin.next ?_
    refine CW.seq ?_
    refine CW.seq ?_
    refine CW.region ?_
    refine RL.y rfl (y_mov (by conv => lhs; whnf)) ?_
    refine RL.y rfl (y_mov (by conv => lhs; whnf)) ?_
    refine RL.call rfl (eqInt64S_any ho13x1.sv ho2x1.sv) ?_
    rintro r w14 ⟨rfl, hX14⟩
    have hsz14 := hX14.size
    replace ho1x0 := ho1x0.ext hX14
    replace ho2x1 := ho2x1.ext hX14
    replace ho8 := ho8.ext hX14
    replace ho10 := ho10.ext hX14
    replace ho6x0 := ho6x0.ext hX14
    replace ho12x0 := ho12x0.ext hX14
    replace ho13x1 := ho13x1.ext hX14
    have hE14 := hE13.trans hX14
    refine RL.y rfl (y_not rfl) ?_
    refine RL.y rfl (y_mov (v := .bool _) rfl) ?_
    refine RL.force (t := 95) false rfl rfl (by first | (simp; done) | exact decide_eq_false (by omega)) ?_
    refine RL.take (t := 95) rfl rfl rfl ?_
    refine RL.y rfl (y_mov (v := .int _ _) rfl) ?_
    refine RL.take (t := 95) rfl rfl rfl ?_
    refine RL.y rfl (y_mov (v := .int _ _) rfl) ?_
    refine RL.take (t := 95) rfl rfl rfl ?_
    refine RL.y rfl (y_ne rfl rfl) ?_
    refine RL.y rfl (y_pickF (v := .bool _) rfl rfl) ?_
    refine RL.nil ?_
    refine Fin.next ?_
    refine CW.condF rfl (by first | (simp; done) | exact decide_eq_false (by omega)) ?_
    refine CW.skip ?_
    refine Fin.next ?_
    refine CW.seq ?_
    refine CW.region ?_
    refine RL.y rfl (y_asg rfl) ?_
    refine RL.nil ?_
    refine Fin.next ?_
    refine CW.seq ?_
    refine CW.region ?_
    refine RL.y rfl (y_mov (by conv => lhs; whnf)) ?_
    refine RL.y rfl (y_mov (v := .int _ _) rfl) ?_
    refine RL.call rfl (heldInt64S_any ho10.sv (by omega) (by omega)) ?_
    rintro r w15 ⟨rfl, hX15⟩
    have hsz15 := hX15.size
    replace ho1x0 := ho1x0.ext hX15
    replace ho2x1 := ho2x1.ext hX15
    replace ho8 := ho8.ext hX15
    replace ho10 := ho10.ext hX15
    replace ho6x0 := ho6x0.ext hX15
    replace ho12x0 := ho12x0.ext hX15
    replace ho13x1 := ho13x1.ext hX15
    have hE15 := hE14.trans hX15
    refine RL.y rfl (y_asg (v := .int _ _) rfl) ?_
    refine RL.nil ?_
    refine Fin.next ?_
    refine CW.seq ?_
    refine CW.seq ?_
    refine CW.region ?_
    refine RL.y rfl (y_mov (v := .int _ _) rfl) ?_
    refine RL.y rfl (y_lt rfl rfl) ?_
    refine RL.nil ?_
    refine Fin.next ?_
    refine CW.condF rfl (by first | (simp; done) | exact decide_eq_false (by omega)) ?_
    refine CW.skip ?_
    refine Fin.next ?_
    refine CW.seq ?_
    refine CW.seq ?_
    refine CW.region ?_
    refine RL.y rfl (y_mov (v := .int _ _) rfl) ?_
    refine RL.y rfl (y_mov (v := .int _ _) rfl) ?_
    refine RL.y rfl (y_ne rfl rfl) ?_
    refine RL.nil ?_
    refine Fin.next ?_
    refine CW.condF rfl (by first | (simp; done) | exact decide_eq_false (by omega)) ?_
    refine CW.skip ?_
    refine Fin.next ?_
    refine CW.seq ?_
    refine CW.region ?_
    refine RL.y rfl (y_asg rfl) ?_
    refine RL.nil ?_
    refine Fin.next ?_
    refine CW.ret ?_
    refine Fin.ret1 rfl (by conv => lhs; whnf) ?_
    exact ⟨_, rfl, rfl, hE15⟩
namespace fnExactNearestFamily
open Go.ChangeShapes Go.WideShapes Go.ChangeAt Go.RowKit
set_option linter.unusedVariables false
theorem own : ownKnob Try.prog.godebug = none := by kernel_rfl
theorem laidOut : laidOutB Try.prog = true := by kernel_rfl
set_option maxRecDepth 100000 in
theorem lifted (os : Os) (started : os.Started) (H : Type) (enc : TypeId × Value → H) :
    ReturnsInHanded {} Try.checked os 10 .any (Rows.fnExactNearestFamilySpec.pre6 enc Try.prog Try.f10 Rows.fnExactNearestFamilyRow.domain false) (Rows.fnExactNearestFamilySpec.post enc Try.prog Try.f10 false true false false) := by
  refine returnsInHanded_of_change (C := Try.checked) own started (by kernel_rfl) Try.func10
    (ChangeSpec.witness6 (enc := enc) (C := Try.checked) false ⟨#[], #[.int .i64 0, .int .i64 0, .int .i64 0, .slice none 0 0], []⟩ 8 (by kernel_rfl) (by kernel_rfl) (by kernel_rfl) (by kernel_rfl)) ?_
  intro W base args ds gs before hval0 hW hcnd _
  have hval : ∀ (j : Nat) t v, Try.f10.params[j]? = some t → args[j]? = some v → Value.okWide Try.prog W .any base t v := hval0
  have hW' := hW
  obtain ⟨p, q, hA0, hV, rfl, hfz, hnd⟩ := hW
  have hA : DataW.TrodAll enc Try.prog W 0 (fun _ => true) true Try.f10.params.toList args.toList ds p := hA0
  rw [Try.params10] at hA hval
  have hkeep := hA
  obtain ⟨v0, vs0, d0, ds0, p0, q0, hargs, rfl, rfl, h0, r0⟩ := trodAll_cons hA
  obtain ⟨v1, vs1, d1, ds1, p1, q1, rfl, rfl, rfl, h1, r1⟩ := trodAll_cons r0
  obtain ⟨v2, vs2, d2, ds2, p2, q2, rfl, rfl, rfl, h2, r2⟩ := trodAll_cons r1
  obtain ⟨v3, vs3, d3, ds3, p3, q3, rfl, rfl, rfl, h3, r3⟩ := trodAll_cons r2
  obtain ⟨rfl, rfl, rfl⟩ := trodAll_nil r3
  obtain rfl : args = #[v0, v1, v2, v3] := by cases args; simp_all
  obtain ⟨rfl, rfl⟩ := trodVars_none hV
  obtain ⟨a0, rfl, rfl, rfl, w00⟩ := open_int Try.underlying2 (hval 0 2 v0 rfl rfl) h0
  have w0 := I64.of w00
  obtain ⟨a1, rfl, rfl, rfl, w10⟩ := open_int Try.underlying2 (hval 1 2 v1 rfl rfl) h1
  have w1 := I64.of w10
  obtain ⟨a2, rfl, rfl, rfl, w20⟩ := open_int Try.underlying2 (hval 2 2 v2 rfl rfl) h2
  have w2 := I64.of w20
  obtain ⟨xs3, hs3, wf3⟩ := open_SI Try.underlying25 Try.underlying2 (by kernel_rfl) (hval 3 25 v3 rfl rfl) h3
  refine (lawNearestFamily W a0 w0 a1 w1 a2 w2 v3 xs3 hs3 wf3).calls.mono fun e W' ⟨r, he, hr, hg⟩ => ?_
  subst hr
  subst he
  exact ⟨_, rfl, _, _, _, [] ++ [], _, [], hW', trodAll_cons_mk (shut_bool Try.underlying4 _) trodAll_mk0, trodAll_ext laidOut (by kernel_rfl) hkeep hg (fun x hx => hW'.lt x (List.mem_append_left _ hx)), rfl, hg.frame _, fun h => by cases h⟩
theorem over : Rows.fnExactNearestFamilyRow.holds Try.pinned (OpenSpec.ofChange Rows.fnExactNearestFamilySpec) :=
  OpenClaim.holds_of_wide 10 Try.f10 rfl rfl rfl rfl rfl rfl rfl ⟨rfl, rfl, rfl, rfl, rfl⟩ rfl rfl rfl rfl rfl (by kernel_rfl) Try.func10 (by kernel_rfl)
    (of_decide_eq_true (by kernel_rfl)) (by unfold Func.isWrapper; first | (rw [if_pos (by decide +kernel)]; kernel_rfl) | (rw [if_neg (by decide +kernel)]; exact ⟨rfl, rfl⟩))
    (fun os started H enc _ => lifted os started H enc)
theorem proved : Rows.FnExactNearestFamilySaid := over
end fnExactNearestFamily
#print axioms fnExactNearestFamily.proved
end Go.Proofs.Ytfpignajpihgnaa
