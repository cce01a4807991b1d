/-
  The program's WearLimit returns what the reference's WearLimit returns, for all arguments; the arguments read behind the call as before it. No condition.
-/
import Derived.Test.YtaepdknmagaokaaFWea4
import Derived.Test.YtaepdknmagaokaaFMarkL
import Derived.Test.YtaepdknmagaokaaLift5
import Derived.Test.YtaepdknmagaokaaRows
namespace Go.Proofs.Ytaepdknmagaokaa
open B Go.RowKit

theorem lawWearLimit (w : World) (mk0 : Mk) (v1 : Value) (ss1 : List (List Int)) (hs1 : RdL w v1 ss1) (_ : ∀ r ∈ ss1, ∀ x ∈ r, I64 x) (v2 : Value) (xs2 : List Int) (hs2 : SI w v2 xs2) (_ : ∀ x ∈ xs2, I64 x) (a3 : Int) (_ : I64 a3) :
    Does Try.prog 9 #[mkA mk0, v1, v2, .int .i64 a3] w (fun r w' => r = .bool true ∧ Ext w w') := by
  skip
  obtain ⟨vl1, rfl, _⟩ := id hs1
  have hT1 := sizeN_tot ss1
  refine enter Try.func9 rfl 66 Try.ntmps9 rfl (by kernel_rfl) ?_
  refine CW.seq ?_
  refine CW.region ?_
  refine RL.box (cs := [.int .i64 mk0.ch, .int .i64 mk0.dp, .int .i64 mk0.st, .int .i64 mk0.sm, .int .i64 mk0.le]) rfl rfl rfl (fun w1 hV1 hX1 => ?_)
  have hsz1 := hX1.size
  have hE1 := hX1
  have hlt1 := hV1.lt
  refine RL.box (cs := [vl1]) rfl rfl rfl (fun w2 hV2 hX2 => ?_)
  have hsz2 := hX2.size
  replace hV1 := hV1.ext hX2
  have hE2 := hE1.trans hX2
  have hlt2 := hV2.lt
  refine RL.y rfl (y_asg rfl) ?_
  refine RL.nil ?_
  refine Fin.next ?_
  refine CW.seq ?_
  refine CW.seq ?_
  refine CW.region ?_
  refine RL.y rfl (y_mov (by conv => lhs; whnf)) ?_
  refine RL.y rfl (y_len sT29 hs2 (ints_len _) rfl) ?_
  refine RL.y rfl (y_gt rfl rfl) ?_
  refine RL.nil ?_
  refine Fin.next ?_
  refine CW.cond rfl rfl (fun hbig1 => ?_) (fun hbig1 => ?_)
  · with_reducible first | (replace hbig1 := deNF hbig1) | (replace hbig1 := of_decide_eq_true hbig1) | (replace hbig1 := of_decide_eq_false hbig1) | (replace hbig1 := deNT hbig1) | (replace hbig1 := deNN hbig1) | (replace hbig1 := bnT hbig1) | (replace hbig1 := bnF hbig1) | skip
    refine CW.seq ?_
    refine CW.region ?_
    refine RL.y rfl (y_asg rfl) ?_
    refine RL.nil ?_
    refine Fin.next ?_
    refine CW.ret ?_
    refine Fin.thenRet ?_
    refine Fin.ret1 rfl (by conv => lhs; whnf) ?_
    exact ⟨_, rfl, rfl, hE2⟩
  · with_reducible first | (replace hbig1 := deNF hbig1) | (replace hbig1 := of_decide_eq_true hbig1) | (replace hbig1 := of_decide_eq_false hbig1) | (replace hbig1 := deNT hbig1) | (replace hbig1 := deNN hbig1) | (replace hbig1 := bnT hbig1) | (replace hbig1 := bnF hbig1) | skip
    refine CW.skip ?_
    refine Fin.next ?_
    refine CW.seq ?_
    refine CW.region ?_
    refine RL.y rfl (y_asg rfl) ?_
    refine RL.nil ?_
    refine Fin.next ?_
    refine CW.seq ?_
    refine CW.region ?_
    refine RL.y rfl (y_loads ag41 rfl (eqw (hV2)) rfl) ?_
    refine RL.y rfl (y_mov (v := .int _ _) rfl) ?_
    refine RL.call rfl (szLock_any (hs1.ext hE2) (by omega) (by omega)) ?_
    rintro r w3 ⟨rfl, hX3⟩
    have hsz3 := hX3.size
    replace hV1 := hV1.ext hX3
    replace hV2 := hV2.ext hX3
    have hE3 := hE2.trans hX3
    refine RL.y rfl (y_asg (v := .int _ _) rfl) ?_
    refine RL.nil ?_
    refine Fin.next ?_
    refine CW.seq ?_
    refine CW.seq ?_
    refine CW.region ?_
    refine RL.y rfl (y_mov (v := .int _ _) rfl) ?_
    refine RL.y rfl (y_lt rfl rfl) ?_
    refine RL.nil ?_
    refine Fin.next ?_
    refine CW.cond rfl rfl (fun hbig2 => ?_) (fun hbig2 => ?_)
    · with_reducible first | (replace hbig2 := deNF hbig2) | (replace hbig2 := of_decide_eq_true hbig2) | (replace hbig2 := of_decide_eq_false hbig2) | (replace hbig2 := deNT hbig2) | (replace hbig2 := deNN hbig2) | (replace hbig2 := bnT hbig2) | (replace hbig2 := bnF hbig2) | skip
      refine CW.seq ?_
      refine CW.region ?_
      refine RL.y rfl (y_asg rfl) ?_
      refine RL.nil ?_
      refine Fin.next ?_
      refine CW.ret ?_
      refine Fin.thenRet ?_
      refine Fin.ret1 rfl (by conv => lhs; whnf) ?_
      exact ⟨_, rfl, rfl, hE3⟩
    · with_reducible first | (replace hbig2 := deNF hbig2) | (replace hbig2 := of_decide_eq_true hbig2) | (replace hbig2 := of_decide_eq_false hbig2) | (replace hbig2 := deNT hbig2) | (replace hbig2 := deNN hbig2) | (replace hbig2 := bnT hbig2) | (replace hbig2 := bnF hbig2) | skip
      obtain ⟨hsz2, hszv2⟩ := szV_ok hbig2
      refine CW.skip ?_
      refine Fin.next ?_
      refine CW.seq ?_
      refine CW.tape (Ext _) [12, 11, 9, 8, 7, 5, 3, 1] mixed (by kernel_rfl) (by kernel_rfl) (Ext.drew _) ?_
      refine TL.y rfl rfl (y_loads ag40 rfl (fun _ hC => (hV1).ext hC) rfl) ?_
      refine TL.op rfl (fun hC => ?_)
      have hD4 := hC
      have hV1z := hV1
      have hV2z := hV2
      replace hV1 := hV1.ext hD4
      replace hV2 := hV2.ext hD4
      have hE4 := hE3.trans hD4
      have hsz4 := hD4.size
      refine RL.call rfl (toMaker_any) ?_
      rintro v w5 ⟨rfl, hX5⟩
      have hsz5 := hX5.size
      replace hV1 := hV1.ext hX5
      replace hV2 := hV2.ext hX5
      have hE5 := hE4.trans hX5
      refine RL.nil ?_
      refine Fin.tl (by first | exact hC | (refine Ext.trans hC ?_; assumption)) ?_
      refine TL.y rfl rfl (y_loads ag41 rfl (fun _ hC => (hV2z).ext hC) rfl) ?_
      refine TL.op rfl (fun hC => ?_)
      refine RL.call rfl (toLock_any (hs1.ext hE5) (by omega)) ?_
      rintro v w6 ⟨ho6x0, hX6⟩
      have hsz6 := hX6.size
      replace hV1 := hV1.ext hX6
      replace hV2 := hV2.ext hX6
      have hE6 := hE5.trans hX6
      replace ho6x0 := OwL.of ho6x0
      obtain ⟨vs6x, rfl, _⟩ := id ho6x0
      refine RL.nil ?_
      refine Fin.tl (by first | exact hC | (refine Ext.trans hC ?_; assumption)) ?_
      refine TL.y rfl rfl (y_mov (by conv => lhs; whnf)) ?_
      refine TL.op rfl (fun hC => ?_)
      refine RL.call rfl (toInt64S_any (hs2.ext hE6) (by omega)) ?_
      rintro v w7 ⟨ho7x0, hX7, _⟩
      have hsz7 := hX7.size
      replace ho6x0 := ho6x0.ext hX7
      replace hV1 := hV1.ext hX7
      replace hV2 := hV2.ext hX7
      have hE7 := hE6.trans hX7
      replace ho7x0 := OU.of ho7x0
      refine RL.nil ?_
      refine Fin.tl (by first | exact hC | (refine Ext.trans hC ?_; assumption)) ?_
      refine TL.y rfl rfl (y_mov (v := .int _ _) rfl) ?_
      refine TL.op rfl (fun hC => ?_)
      refine RL.call rfl (specWearLimit_any ho6x0.rd ho7x0.sv) ?_
      rintro r w8 ⟨rfl, hX8⟩
      have hsz8 := hX8.size
      replace ho6x0 := ho6x0.ext hX8
      replace ho7x0 := ho7x0.ext hX8
      replace hV1 := hV1.ext hX8
      replace hV2 := hV2.ext hX8
      have hE8 := hE7.trans hX8
      refine RL.nil ?_
      refine Fin.tl (by first | exact hC | (refine Ext.trans hC ?_; assumption)) ?_
      refine TL.yc rfl rfl (y_mov (by conv => lhs; whnf)) ?_
      refine TL.yc rfl rfl (y_ext0 rfl) ?_
      refine TL.y rfl rfl (y_ext1 rfl) ?_
      refine TL.yc rfl rfl (y_asg (v := .int _ _) rfl) ?_
      refine TL.yc rfl rfl (y_asg (v := .int _ _) rfl) ?_
      refine TL.nil (fun hC => ?_)
      refine Fin.next ?_
      refine CW.seq ?_
      refine CW.region ?_
      refine RL.y rfl (y_loads ag41 rfl (eqw (hV2)) rfl) ?_
      refine RL.call rfl (toLock_any (hs1.ext hE8) (by omega)) ?_
      rintro v w9 ⟨ho9x0, hX9⟩
      have hsz9 := hX9.size
      replace ho6x0 := ho6x0.ext hX9
      replace ho7x0 := ho7x0.ext hX9
      replace hV1 := hV1.ext hX9
      replace hV2 := hV2.ext hX9
      have hE9 := hE8.trans hX9
      replace ho9x0 := OwL.of ho9x0
      obtain ⟨vs9x, rfl, _⟩ := id ho9x0
      refine RL.alloc rfl ze28 (fun w10 hV10 hX10 => ?_)
      have hsz10 := hX10.size
      replace ho6x0 := ho6x0.ext hX10
      replace ho7x0 := ho7x0.ext hX10
      replace ho9x0 := ho9x0.ext hX10
      replace hV1 := hV1.ext hX10
      replace hV2 := hV2.ext hX10
      have hE10 := hE9.trans hX10
      have hlt10 := hV10.lt
      refine RL.stores ag28 (hV10) rfl rfl rfl rfl (ho9x0.one) (fun w11 hV11 hg11 => ?_)
      have hM11 := grown_mod (B := w9.heap.size) (U := w9.heap.size + 1) hg11 (fun k e => by simp only [Option.some.injEq] at e; omega)
      have hsz11 := hM11.size
      replace ho6x0 := ho6x0.mod hM11 (by omega)
      replace ho7x0 := ho7x0.mod hM11 (by omega)
      replace ho9x0 := ho9x0.mod hM11 (by omega)
      replace hV1 := hV1.mod hM11 (by omega)
      replace hV2 := hV2.mod hM11 (by omega)
      have hE11 := Ext.then_mod hE10 hM11 (by omega)
      refine RL.nil ?_
      refine Fin.next ?_
      refine CW.seq ?_
      refine CW.region ?_
      refine RL.y rfl (y_mov (by conv => lhs; whnf)) ?_
      refine RL.call rfl (toInt64S_any (hs2.ext hE11) (by omega)) ?_
      rintro v w12 ⟨ho12x0, hX12, _⟩
      have hsz12 := hX12.size
      replace ho6x0 := ho6x0.ext hX12
      replace ho7x0 := ho7x0.ext hX12
      replace ho9x0 := ho9x0.ext hX12
      replace hV1 := hV1.ext hX12
      replace hV2 := hV2.ext hX12
      replace hV11 := hV11.ext hX12
      have hE12 := hE11.trans hX12
      replace ho12x0 := OU.of ho12x0
      refine RL.y rfl (y_asg (by conv => lhs; whnf)) ?_
      refine RL.nil ?_
      refine Fin.next ?_
      refine CW.seq ?_
      refine CW.tape (Ext _) [10, 9, 7, 6, 5, 1] mixed (by kernel_rfl) (by kernel_rfl) (Ext.drew _) ?_
      refine TL.y rfl rfl (y_loads ag40 rfl (fun _ hC => (hV1).ext hC) rfl) ?_
      refine TL.op rfl (fun hC => ?_)
      have hD13 := hC
      have ho6x0z := ho6x0
      have ho7x0z := ho7x0
      have ho9x0z := ho9x0
      have ho12x0z := ho12x0
      have hV1z := hV1
      have hV2z := hV2
      have hV11z := hV11
      replace ho6x0 := ho6x0.ext hD13
      replace ho7x0 := ho7x0.ext hD13
      replace ho9x0 := ho9x0.ext hD13
      replace ho12x0 := ho12x0.ext hD13
      replace hV1 := hV1.ext hD13
      replace hV2 := hV2.ext hD13
      replace hV11 := hV11.ext hD13
      have hE13 := hE12.trans hD13
      have hsz13 := hD13.size
      refine RL.call rfl (toMaker_any) ?_
      rintro v w14 ⟨rfl, hX14⟩
      have hsz14 := hX14.size
      replace ho6x0 := ho6x0.ext hX14
      replace ho7x0 := ho7x0.ext hX14
      replace ho9x0 := ho9x0.ext hX14
      replace ho12x0 := ho12x0.ext hX14
      replace hV1 := hV1.ext hX14
      replace hV2 := hV2.ext hX14
      replace hV11 := hV11.ext hX14
      have hE14 := hE13.trans hX14
      refine RL.nil ?_
      refine Fin.tl (by first | exact hC | (refine Ext.trans hC ?_; assumption)) ?_
      refine TL.y rfl rfl (y_loads ag28 rfl (fun _ hC => (hV11z).ext hC) rfl) ?_
      refine TL.y rfl rfl (y_mov (by conv => lhs; whnf)) ?_
      refine TL.y rfl rfl (y_mov (v := .int _ _) rfl) ?_
      refine TL.op rfl (fun hC => ?_)
      refine RL.call rfl (implWearLimit_any ho9x0.rd ho12x0.sv) ?_
      rintro r w15 ⟨rfl, hX15⟩
      have hsz15 := hX15.size
      replace ho6x0 := ho6x0.ext hX15
      replace ho7x0 := ho7x0.ext hX15
      replace ho9x0 := ho9x0.ext hX15
      replace ho12x0 := ho12x0.ext hX15
      replace hV1 := hV1.ext hX15
      replace hV2 := hV2.ext hX15
      replace hV11 := hV11.ext hX15
      have hE15 := hE14.trans hX15
      refine RL.nil ?_
      refine Fin.tl (by first | exact hC | (refine Ext.trans hC ?_; assumption)) ?_
      refine TL.yc rfl rfl (y_mov (by conv => lhs; whnf)) ?_
      refine TL.yc rfl rfl (y_ext0 rfl) ?_
      refine TL.y rfl rfl (y_ext1 rfl) ?_
      refine TL.yc rfl rfl (y_asg (v := .int _ _) rfl) ?_
      refine TL.yc rfl rfl (y_asg (v := .int _ _) rfl) ?_
      refine TL.nil (fun hC => ?_)
      refine Fin.next ?_
      refine CW.seq ?_
      refine CW.seq ?_
      refine CW.region ?_
      refine RL.y rfl (y_mov (v := .int _ _) rfl) ?_
      refine RL.y rfl (y_mov (v := .int _ _) rfl) ?_
      refine RL.y rfl (y_ne rfl rfl) ?_
      refine RL.y rfl (y_mov (v := .bool _) rfl) ?_
      refine RL.force (t := 51) false rfl rfl (by first | (simp; done) | exact decide_eq_false (by omega) | (simp [*]; done) | assumption) ?_
      refine RL.take (t := 51) rfl rfl rfl ?_
      refine RL.y rfl (y_mov (v := .int _ _) rfl) ?_
      refine RL.take (t := 51) rfl rfl rfl ?_
      refine RL.y rfl (y_mov (v := .int _ _) rfl) ?_
      refine RL.take (t := 51) rfl rfl rfl ?_
      refine RL.y rfl (y_ne rfl rfl) ?_
      refine RL.y rfl (y_pickF (v := .bool _) rfl rfl) ?_
      refine RL.nil ?_
      refine Fin.next ?_
      refine CW.condF rfl (by first | (simp; done) | exact decide_eq_false (by omega) | (simp [*]; done) | assumption) ?_
      refine CW.skip ?_
      refine Fin.next ?_
      refine CW.seq ?_
      refine CW.seq ?_
      refine CW.tape (Ext _) [4, 3, 2] mixed (by kernel_rfl) (by kernel_rfl) (Ext.drew _) ?_
      refine TL.y rfl rfl (y_loads ag28 rfl (fun _ hC => (hV11).ext hC) rfl) ?_
      refine TL.y rfl rfl (y_loads ag41 rfl (fun _ hC => (hV2).ext hC) rfl) ?_
      refine TL.op rfl (fun hC => ?_)
      have hD16 := hC
      have ho6x0z := ho6x0
      have ho7x0z := ho7x0
      have ho9x0z := ho9x0
      have ho12x0z := ho12x0
      have hV1z := hV1
      have hV2z := hV2
      have hV11z := hV11
      replace ho6x0 := ho6x0.ext hD16
      replace ho7x0 := ho7x0.ext hD16
      replace ho9x0 := ho9x0.ext hD16
      replace ho12x0 := ho12x0.ext hD16
      replace hV1 := hV1.ext hD16
      replace hV2 := hV2.ext hD16
      replace hV11 := hV11.ext hD16
      have hE16 := hE15.trans hD16
      have hsz16 := hD16.size
      refine RL.call rfl (toLock_any (hs1.ext hE16) (by omega)) ?_
      rintro v w17 ⟨ho17x0, hX17⟩
      have hsz17 := hX17.size
      replace ho6x0 := ho6x0.ext hX17
      replace ho7x0 := ho7x0.ext hX17
      replace ho9x0 := ho9x0.ext hX17
      replace ho12x0 := ho12x0.ext hX17
      replace hV1 := hV1.ext hX17
      replace hV2 := hV2.ext hX17
      replace hV11 := hV11.ext hX17
      have hE17 := hE16.trans hX17
      replace ho17x0 := OwL.of ho17x0
      obtain ⟨vs17x, rfl, _⟩ := id ho17x0
      refine RL.nil ?_
      refine Fin.tl (by first | exact hC | (refine Ext.trans hC ?_; assumption)) ?_
      refine TL.op rfl (fun hC => ?_)
      refine RL.call rfl (eqLock_any ho9x0.rd ho17x0.rd) ?_
      rintro r w18 ⟨rfl, hX18⟩
      have hsz18 := hX18.size
      replace ho6x0 := ho6x0.ext hX18
      replace ho7x0 := ho7x0.ext hX18
      replace ho9x0 := ho9x0.ext hX18
      replace ho12x0 := ho12x0.ext hX18
      replace ho17x0 := ho17x0.ext hX18
      replace hV1 := hV1.ext hX18
      replace hV2 := hV2.ext hX18
      replace hV11 := hV11.ext hX18
      have hE18 := hE17.trans hX18
      refine RL.nil ?_
      refine Fin.tl (by first | exact hC | (refine Ext.trans hC ?_; assumption)) ?_
      refine TL.yc rfl rfl (y_not rfl) ?_
      refine TL.nil (fun hC => ?_)
      refine Fin.next ?_
      refine CW.condF rfl (by first | (simp; done) | exact decide_eq_false (by omega) | (simp [*]; done) | assumption) ?_
      refine CW.skip ?_
      refine Fin.next ?_
      refine CW.seq ?_
      refine CW.seq ?_
      refine CW.region ?_
      refine RL.y rfl (y_mov (by conv => lhs; whnf)) ?_
      refine RL.y rfl (y_mov (by conv => lhs; whnf)) ?_
      refine RL.call rfl (toInt64S_any (hs2.ext hE18) (by omega)) ?_
      rintro v w19 ⟨ho19x0, hX19, _⟩
      have hsz19 := hX19.size
      replace ho6x0 := ho6x0.ext hX19
      replace ho7x0 := ho7x0.ext hX19
      replace ho9x0 := ho9x0.ext hX19
      replace ho12x0 := ho12x0.ext hX19
      replace ho17x0 := ho17x0.ext hX19
      replace hV1 := hV1.ext hX19
      replace hV2 := hV2.ext hX19
      replace hV11 := hV11.ext hX19
      have hE19 := hE18.trans hX19
      replace ho19x0 := OU.of ho19x0
      refine RL.call rfl (eqInt64S_any ho12x0.sv ho19x0.sv) ?_
      rintro r w20 ⟨rfl, hX20⟩
      have hsz20 := hX20.size
      replace ho6x0 := ho6x0.ext hX20
      replace ho7x0 := ho7x0.ext hX20
      replace ho9x0 := ho9x0.ext hX20
      replace ho12x0 := ho12x0.ext hX20
      replace ho17x0 := ho17x0.ext hX20
      replace ho19x0 := ho19x0.ext hX20
      replace hV1 := hV1.ext hX20
      replace hV2 := hV2.ext hX20
      replace hV11 := hV11.ext hX20
      have hE20 := hE19.trans hX20
      refine RL.y rfl (y_not rfl) ?_
      refine RL.nil ?_
      refine Fin.next ?_
      refine CW.condF rfl (by first | (simp; done) | exact decide_eq_false (by omega) | (simp [*]; done) | assumption) ?_
      refine CW.skip ?_
      refine Fin.next ?_
      refine CW.seq ?_
      refine CW.region ?_
      refine RL.y rfl (y_asg rfl) ?_
      refine RL.nil ?_
      refine Fin.next ?_
      refine CW.ret ?_
      refine Fin.ret1 rfl (by conv => lhs; whnf) ?_
      exact ⟨_, rfl, rfl, hE20⟩
namespace fnExactWearLimit
open Go.ChangeShapes Go.WideShapes Go.ChangeAt Go.RowKit
set_option linter.unusedVariables false
theorem own : ownKnob Try.prog.godebug = none := by kernel_rfl
theorem laidOut : laidOutB Try.prog = true := by kernel_rfl
set_option maxRecDepth 100000 in
theorem lifted (os : Os) (started : os.Started) (H : Type) (enc : TypeId × Value → H) :
    ReturnsInHanded {} Try.checked os 9 .any (Rows.fnExactWearLimitSpec.pre6 enc Try.prog Try.f9 Rows.fnExactWearLimitRow.domain false) (Rows.fnExactWearLimitSpec.post enc Try.prog Try.f9 false true false false) := by
  refine returnsInHanded_of_change (C := Try.checked) own started (by kernel_rfl) Try.func9
    (ChangeSpec.witness6 (enc := enc) (C := Try.checked) false ⟨#[], #[.agg #[(.int .i64 0), (.int .i64 0), (.int .i64 0), (.int .i64 0), (.int .i64 0)], .agg #[(.slice none 0 0)], .slice none 0 0, .int .i64 0], []⟩ 8 (by kernel_rfl) (by kernel_rfl) (by kernel_rfl) (by kernel_rfl)) ?_
  intro W base args ds gs before hval0 hW hcnd _
  have hval : ∀ (j : Nat) t v, Try.f9.params[j]? = some t → args[j]? = some v → Value.okWide Try.prog W .any base t v := hval0
  have hW' := hW
  obtain ⟨p, q, hA0, hV, rfl, hfz, hnd⟩ := hW
  have hA : DataW.TrodAll enc Try.prog W 0 (fun _ => true) true Try.f9.params.toList args.toList ds p := hA0
  rw [Try.params9] at hA hval
  have hkeep := hA
  obtain ⟨v0, vs0, d0, ds0, p0, q0, hargs, rfl, rfl, h0, r0⟩ := trodAll_cons hA
  obtain ⟨v1, vs1, d1, ds1, p1, q1, rfl, rfl, rfl, h1, r1⟩ := trodAll_cons r0
  obtain ⟨v2, vs2, d2, ds2, p2, q2, rfl, rfl, rfl, h2, r2⟩ := trodAll_cons r1
  obtain ⟨v3, vs3, d3, ds3, p3, q3, rfl, rfl, rfl, h3, r3⟩ := trodAll_cons r2
  obtain ⟨rfl, rfl, rfl⟩ := trodAll_nil r3
  obtain rfl : args = #[v0, v1, v2, v3] := by cases args; simp_all
  obtain ⟨rfl, rfl⟩ := trodVars_none hV
  obtain ⟨ma0, mb0, mc0, md0, me0, hag0, wf0⟩ := open_agg5 Try.underlying40 rfl (by kernel_rfl) (by intro f hf; simp only [List.mem_cons, List.not_mem_nil, or_false] at hf; rcases hf with rfl | rfl | rfl | rfl | rfl <;> exact Try.underlying2) (hval 0 40 v0 rfl rfl) h0
  subst hag0
  obtain ⟨vl1, yl1, n1, hag1, tl1⟩ := open_agg1 Try.underlying41 rfl (by kernel_rfl) (hval 1 41 v1 rfl rfl) h1
  obtain ⟨ss1, hl1, wf1⟩ := open_RdSSt Try.underlying26 Try.underlying29 Try.underlying2 (by kernel_rfl) (by kernel_rfl) tl1
  obtain ⟨xs2, hs2, wf2⟩ := open_SI Try.underlying29 Try.underlying2 (by kernel_rfl) (hval 2 29 v2 rfl rfl) h2
  obtain ⟨a3, rfl, rfl, rfl, w30⟩ := open_int Try.underlying2 (hval 3 2 v3 rfl rfl) h3
  have w3 := I64.of w30
  refine (lawWearLimit W ⟨ma0, mb0, mc0, md0, me0⟩ v1 ss1 ⟨vl1, hag1, hl1⟩ wf1 v2 xs2 hs2 wf2 a3 w3).calls.mono fun e W' ⟨r, he, hr, hg⟩ => ?_
  subst hr
  subst he
  exact ⟨_, rfl, _, _, _, [] ++ [], _, [], hW', trodAll_cons_mk (shut_bool Try.underlying4 _) trodAll_mk0, trodAll_ext laidOut (by kernel_rfl) hkeep hg (fun x hx => hW'.lt x (List.mem_append_left _ hx)), rfl, hg.frame _, fun h => by cases h⟩
theorem over : Rows.fnExactWearLimitRow.holds Try.pinned (OpenSpec.ofChange Rows.fnExactWearLimitSpec) :=
  OpenClaim.holds_of_wide 9 Try.f9 rfl rfl rfl rfl rfl rfl rfl ⟨rfl, rfl, rfl, rfl, rfl⟩ rfl rfl rfl rfl rfl (by kernel_rfl) Try.func9 (by kernel_rfl)
    (of_decide_eq_true (by kernel_rfl)) (by unfold Func.isWrapper; first | (rw [if_pos (by decide +kernel)]; kernel_rfl) | (rw [if_neg (by decide +kernel)]; exact ⟨rfl, rfl⟩))
    (fun os started H enc _ => lifted os started H enc)
theorem proved : Rows.FnExactWearLimitSaid := over
end fnExactWearLimit
#print axioms fnExactWearLimit.proved
end Go.Proofs.Ytaepdknmagaokaa
