/-
  The program's AddKey returns what the reference's AddKey returns, for all arguments; the arguments read behind the call as before it. No condition.
-/
import Derived.Test.YtkkeipogkjlneaaFPln5
import Derived.Test.YtkkeipogkjlneaaPln2
import Derived.Test.YtkkeipogkjlneaaLift5
import Derived.Test.YtkkeipogkjlneaaRows
namespace Go.Proofs.Ytkkeipogkjlneaa
open B Go.RowKit

theorem lawAddKey (w : World) (v0 : Value) (ps0 : List Int) (ds0 : List Bool) (rs0 : List (List Int)) (hs0 : RdP w v0 ps0 ds0 rs0) (_ : ∀ x ∈ ps0, I64 x) (v1 : Value) (xs1 : List Int) (hs1 : SI w v1 xs1) (_ : ∀ x ∈ xs1, I64 x) :
    Does Try.prog 7 #[v0, v1] w (fun r w' => r = .bool true ∧ Ext w w') := by
  obtain ⟨vp0, vd0, vr0, rfl, _⟩ := id hs0
  have hT0 := sizeN_tot rs0
  have hR := akV_rights ps0 ds0 rs0 xs1
  have hR2 := akV_lens ps0 ds0 rs0 xs1
  refine enter Try.func7 rfl 117 Try.ntmps7 rfl (by kernel_rfl) ?_
  refine CW.seq ?_
  refine CW.region ?_
  refine RL.box (cs := [vp0, vd0, vr0]) rfl rfl rfl (fun w1 hV1 hX1 => ?_)
  have hsz1 := hX1.size
  have hE1 := hX1
  have hlt1 := hV1.lt
  refine RL.y rfl (y_asg rfl) ?_
  refine RL.nil ?_
  refine Fin.next ?_
  refine CW.seq ?_
  refine CW.seq ?_
  refine CW.region ?_
  refine RL.y rfl (y_mov (by conv => lhs; whnf)) ?_
  refine RL.y rfl (y_len sT22 hs1 (ints_len _) rfl) ?_
  refine RL.y rfl (y_gt rfl rfl) ?_
  refine RL.nil ?_
  refine Fin.next ?_
  refine CW.cond rfl rfl (fun hbig1 => ?_) (fun hbig1 => ?_)
  · with_reducible first | (replace hbig1 := deNF hbig1) | (replace hbig1 := of_decide_eq_true hbig1) | (replace hbig1 := of_decide_eq_false hbig1) | (replace hbig1 := deNT hbig1) | (replace hbig1 := deNN hbig1) | (replace hbig1 := bnT hbig1) | (replace hbig1 := bnF hbig1) | skip
    refine CW.seq ?_
    refine CW.region ?_
    refine RL.y rfl (y_asg rfl) ?_
    refine RL.nil ?_
    refine Fin.next ?_
    refine CW.ret ?_
    refine Fin.thenRet ?_
    refine Fin.ret1 rfl (by conv => lhs; whnf) ?_
    exact ⟨_, rfl, rfl, hE1⟩
  · with_reducible first | (replace hbig1 := deNF hbig1) | (replace hbig1 := of_decide_eq_true hbig1) | (replace hbig1 := of_decide_eq_false hbig1) | (replace hbig1 := deNT hbig1) | (replace hbig1 := deNN hbig1) | (replace hbig1 := bnT hbig1) | (replace hbig1 := bnF hbig1) | skip
    refine CW.skip ?_
    refine Fin.next ?_
    refine CW.seq ?_
    refine CW.region ?_
    refine RL.y rfl (y_asg rfl) ?_
    refine RL.nil ?_
    refine Fin.next ?_
    refine CW.seq ?_
    refine CW.region ?_
    refine RL.y rfl (y_loads ag28 rfl (eqw (hV1)) rfl) ?_
    refine RL.y rfl (y_mov (v := .int _ _) rfl) ?_
    refine RL.call rfl (szPlan_any (hs0.ext hE1) (by omega) (by omega)) ?_
    rintro r w2 ⟨rfl, hX2⟩
    have hsz2 := hX2.size
    replace hV1 := hV1.ext hX2
    have hE2 := hE1.trans hX2
    refine RL.y rfl (y_asg (v := .int _ _) rfl) ?_
    refine RL.nil ?_
    refine Fin.next ?_
    refine CW.seq ?_
    refine CW.seq ?_
    refine CW.region ?_
    refine RL.y rfl (y_mov (v := .int _ _) rfl) ?_
    refine RL.y rfl (y_lt rfl rfl) ?_
    refine RL.nil ?_
    refine Fin.next ?_
    refine CW.cond rfl rfl (fun hbig2 => ?_) (fun hbig2 => ?_)
    · with_reducible first | (replace hbig2 := deNF hbig2) | (replace hbig2 := of_decide_eq_true hbig2) | (replace hbig2 := of_decide_eq_false hbig2) | (replace hbig2 := deNT hbig2) | (replace hbig2 := deNN hbig2) | (replace hbig2 := bnT hbig2) | (replace hbig2 := bnF hbig2) | skip
      refine CW.seq ?_
      refine CW.region ?_
      refine RL.y rfl (y_asg rfl) ?_
      refine RL.nil ?_
      refine Fin.next ?_
      refine CW.ret ?_
      refine Fin.thenRet ?_
      refine Fin.ret1 rfl (by conv => lhs; whnf) ?_
      exact ⟨_, rfl, rfl, hE2⟩
    · with_reducible first | (replace hbig2 := deNF hbig2) | (replace hbig2 := of_decide_eq_true hbig2) | (replace hbig2 := of_decide_eq_false hbig2) | (replace hbig2 := deNT hbig2) | (replace hbig2 := deNN hbig2) | (replace hbig2 := bnT hbig2) | (replace hbig2 := bnF hbig2) | skip
      obtain ⟨hsz2, hszv2⟩ := szV_ok hbig2
      refine CW.skip ?_
      refine Fin.next ?_
      refine CW.seq ?_
      refine CW.region ?_
      refine RL.y rfl (y_loads ag28 rfl (eqw (hV1)) rfl) ?_
      refine RL.call rfl (toPlan_any (hs0.ext hE2) (by omega)) ?_
      rintro v w3 ⟨ho3x0, hX3⟩
      have hsz3 := hX3.size
      replace hV1 := hV1.ext hX3
      have hE3 := hE2.trans hX3
      replace ho3x0 := OwP.of ho3x0
      obtain ⟨vp3x, vd3x, vr3x, _, rfl, _⟩ := id ho3x0
      refine RL.y rfl (y_mov (by conv => lhs; whnf)) ?_
      refine RL.call rfl (toInt64S_any (hs1.ext hE3) (by omega)) ?_
      rintro v w4 ⟨ho4x0, hX4, _⟩
      have hsz4 := hX4.size
      replace ho3x0 := ho3x0.ext hX4
      replace hV1 := hV1.ext hX4
      have hE4 := hE3.trans hX4
      replace ho4x0 := OU.of ho4x0
      refine RL.call rfl (specAddKey_any ho3x0.rd ho4x0.sv) ?_
      rintro r w5 ⟨v15, rfl, ho5x1, hX5⟩
      have hsz5 := hX5.size
      replace ho3x0 := ho3x0.ext hX5
      replace ho4x0 := ho4x0.ext hX5
      replace hV1 := hV1.ext hX5
      have hE5 := hE4.trans hX5
      replace ho5x1 := RuP.of ho5x1
      obtain ⟨vp5x, vd5x, vr5x, rfl, _⟩ := id ho5x1
      refine RL.y rfl (y_mov (by conv => lhs; whnf)) ?_
      refine RL.y rfl (y_ext0 rfl) ?_
      refine RL.y rfl (y_ext1 rfl) ?_
      refine RL.alloc rfl ze33 (fun w6 hV6 hX6 => ?_)
      have hsz6 := hX6.size
      replace ho3x0 := ho3x0.ext hX6
      replace ho4x0 := ho4x0.ext hX6
      replace ho5x1 := ho5x1.ext hX6
      replace hV1 := hV1.ext hX6
      have hE6 := hE5.trans hX6
      have hlt6 := hV6.lt
      refine RL.stores ag33 (hV6) rfl rfl rfl rfl (ho5x1.one) (fun w7 hV7 hg7 => ?_)
      have hM7 := grown_mod (B := w5.heap.size) (U := w5.heap.size + 1) hg7 (fun k e => by simp only [Option.some.injEq] at e; omega)
      have hsz7 := hM7.size
      replace ho3x0 := ho3x0.mod hM7 (by omega)
      replace ho4x0 := ho4x0.mod hM7 (by omega)
      replace ho5x1 := ho5x1.mod hM7 (by omega)
      replace hV1 := hV1.mod hM7 (by omega)
      have hE7 := Ext.then_mod hE6 hM7 (by omega)
      refine RL.y rfl (y_asg (v := .int _ _) rfl) ?_
      refine RL.nil ?_
      refine Fin.next ?_
      refine CW.seq ?_
      refine CW.region ?_
      refine RL.y rfl (y_loads ag28 rfl (eqw (hV1)) rfl) ?_
      refine RL.call rfl (toPlan_any (hs0.ext hE7) (by omega)) ?_
      rintro v w8 ⟨ho8x0, hX8⟩
      have hsz8 := hX8.size
      replace ho3x0 := ho3x0.ext hX8
      replace ho4x0 := ho4x0.ext hX8
      replace ho5x1 := ho5x1.ext hX8
      replace hV1 := hV1.ext hX8
      replace hV7 := hV7.ext hX8
      have hE8 := hE7.trans hX8
      replace ho8x0 := OwP.of ho8x0
      obtain ⟨vp8x, vd8x, vr8x, _, rfl, _⟩ := id ho8x0
      refine RL.alloc rfl ze33 (fun w9 hV9 hX9 => ?_)
      have hsz9 := hX9.size
      replace ho3x0 := ho3x0.ext hX9
      replace ho4x0 := ho4x0.ext hX9
      replace ho5x1 := ho5x1.ext hX9
      replace ho8x0 := ho8x0.ext hX9
      replace hV1 := hV1.ext hX9
      replace hV7 := hV7.ext hX9
      have hE9 := hE8.trans hX9
      have hlt9 := hV9.lt
      refine RL.stores ag33 (hV9) rfl rfl rfl rfl (ho8x0.one) (fun w10 hV10 hg10 => ?_)
      have hM10 := grown_mod (B := w8.heap.size) (U := w8.heap.size + 1) hg10 (fun k e => by simp only [Option.some.injEq] at e; omega)
      have hsz10 := hM10.size
      replace ho3x0 := ho3x0.mod hM10 (by omega)
      replace ho4x0 := ho4x0.mod hM10 (by omega)
      replace ho5x1 := ho5x1.mod hM10 (by omega)
      replace ho8x0 := ho8x0.mod hM10 (by omega)
      replace hV1 := hV1.mod hM10 (by omega)
      replace hV7 := hV7.mod hM10 (by omega)
      have hE10 := Ext.then_mod hE9 hM10 (by omega)
      refine RL.nil ?_
      refine Fin.next ?_
      refine CW.seq ?_
      refine CW.region ?_
      refine RL.y rfl (y_mov (by conv => lhs; whnf)) ?_
      refine RL.call rfl (toInt64S_any (hs1.ext hE10) (by omega)) ?_
      rintro v w11 ⟨ho11x0, hX11, _⟩
      have hsz11 := hX11.size
      replace ho3x0 := ho3x0.ext hX11
      replace ho4x0 := ho4x0.ext hX11
      replace ho5x1 := ho5x1.ext hX11
      replace ho8x0 := ho8x0.ext hX11
      replace hV1 := hV1.ext hX11
      replace hV7 := hV7.ext hX11
      replace hV10 := hV10.ext hX11
      have hE11 := hE10.trans hX11
      replace ho11x0 := OU.of ho11x0
      refine RL.y rfl (y_asg (by conv => lhs; whnf)) ?_
      refine RL.nil ?_
      refine Fin.next ?_
      refine CW.seq ?_
      refine CW.region ?_
      refine RL.y rfl (y_loads ag33 rfl (eqw (hV10)) rfl) ?_
      refine RL.y rfl (y_mov (by conv => lhs; whnf)) ?_
      refine RL.call rfl (implAddKey_any ho8x0.rd ho11x0.sv) ?_
      rintro r w12 ⟨v112, rfl, ho12x1, hX12⟩
      have hsz12 := hX12.size
      replace ho3x0 := ho3x0.ext hX12
      replace ho4x0 := ho4x0.ext hX12
      replace ho5x1 := ho5x1.ext hX12
      replace ho8x0 := ho8x0.ext hX12
      replace ho11x0 := ho11x0.ext hX12
      replace hV1 := hV1.ext hX12
      replace hV7 := hV7.ext hX12
      replace hV10 := hV10.ext hX12
      have hE12 := hE11.trans hX12
      replace ho12x1 := OwP.of ho12x1
      obtain ⟨vp12x, vd12x, vr12x, _, rfl, _⟩ := id ho12x1
      refine RL.y rfl (y_mov (by conv => lhs; whnf)) ?_
      refine RL.y rfl (y_ext0 rfl) ?_
      refine RL.y rfl (y_ext1 rfl) ?_
      refine RL.alloc rfl ze33 (fun w13 hV13 hX13 => ?_)
      have hsz13 := hX13.size
      replace ho3x0 := ho3x0.ext hX13
      replace ho4x0 := ho4x0.ext hX13
      replace ho5x1 := ho5x1.ext hX13
      replace ho8x0 := ho8x0.ext hX13
      replace ho11x0 := ho11x0.ext hX13
      replace ho12x1 := ho12x1.ext hX13
      replace hV1 := hV1.ext hX13
      replace hV7 := hV7.ext hX13
      replace hV10 := hV10.ext hX13
      have hE13 := hE12.trans hX13
      have hlt13 := hV13.lt
      refine RL.stores ag33 (hV13) rfl rfl rfl rfl (ho12x1.one) (fun w14 hV14 hg14 => ?_)
      have hM14 := grown_mod (B := w12.heap.size) (U := w12.heap.size + 1) hg14 (fun k e => by simp only [Option.some.injEq] at e; omega)
      have hsz14 := hM14.size
      replace ho3x0 := ho3x0.mod hM14 (by omega)
      replace ho4x0 := ho4x0.mod hM14 (by omega)
      replace ho5x1 := ho5x1.mod hM14 (by omega)
      replace ho8x0 := ho8x0.mod hM14 (by omega)
      replace ho11x0 := ho11x0.mod hM14 (by omega)
      replace ho12x1 := ho12x1.mod hM14 (by omega)
      replace hV1 := hV1.mod hM14 (by omega)
      replace hV7 := hV7.mod hM14 (by omega)
      replace hV10 := hV10.mod hM14 (by omega)
      have hE14 := Ext.then_mod hE13 hM14 (by omega)
      refine RL.y rfl (y_asg (v := .int _ _) rfl) ?_
      refine RL.nil ?_
      refine Fin.next ?_
      refine CW.seq ?_
      refine CW.seq ?_
      refine CW.region ?_
      refine RL.y rfl (y_loads ag33 rfl (eqw (hV14)) rfl) ?_
      refine RL.y rfl (y_loads ag33 rfl (eqw (hV7)) rfl) ?_
      refine RL.call rfl (eqPlan_any ho12x1.rd ho5x1.rd) ?_
      rintro r w15 ⟨rfl, hX15⟩
      have hsz15 := hX15.size
      replace ho3x0 := ho3x0.ext hX15
      replace ho4x0 := ho4x0.ext hX15
      replace ho5x1 := ho5x1.ext hX15
      replace ho8x0 := ho8x0.ext hX15
      replace ho11x0 := ho11x0.ext hX15
      replace ho12x1 := ho12x1.ext hX15
      replace hV1 := hV1.ext hX15
      replace hV7 := hV7.ext hX15
      replace hV10 := hV10.ext hX15
      replace hV14 := hV14.ext hX15
      have hE15 := hE14.trans hX15
      refine RL.y rfl (y_not rfl) ?_
      refine RL.y rfl (y_mov (v := .bool _) rfl) ?_
      refine RL.force (t := 47) false rfl rfl (by first | (simp; done) | exact decide_eq_false (by omega) | (simp [*]; done) | assumption) ?_
      refine RL.take (t := 47) rfl rfl rfl ?_
      refine RL.y rfl (y_mov (v := .int _ _) rfl) ?_
      refine RL.take (t := 47) rfl rfl rfl ?_
      refine RL.y rfl (y_mov (v := .int _ _) rfl) ?_
      refine RL.take (t := 47) rfl rfl rfl ?_
      refine RL.y rfl (y_ne rfl rfl) ?_
      refine RL.y rfl (y_pickF (v := .bool _) rfl rfl) ?_
      refine RL.nil ?_
      refine Fin.next ?_
      refine CW.condF rfl (by first | (simp; done) | exact decide_eq_false (by omega) | (simp [*]; done) | assumption) ?_
      refine CW.skip ?_
      refine Fin.next ?_
      refine CW.seq ?_
      refine CW.seq ?_
      refine CW.tape (Ext _) [4, 3, 2] mixed (by kernel_rfl) (by kernel_rfl) (Ext.drew _) ?_
      refine TL.y rfl rfl (y_loads ag33 rfl (fun _ hC => (hV10).ext hC) rfl) ?_
      refine TL.y rfl rfl (y_loads ag28 rfl (fun _ hC => (hV1).ext hC) rfl) ?_
      refine TL.op rfl (fun hC => ?_)
      have hD16 := hC
      have ho3x0z := ho3x0
      have ho4x0z := ho4x0
      have ho5x1z := ho5x1
      have ho8x0z := ho8x0
      have ho11x0z := ho11x0
      have ho12x1z := ho12x1
      replace ho3x0 := ho3x0.ext hD16
      replace ho4x0 := ho4x0.ext hD16
      replace ho5x1 := ho5x1.ext hD16
      replace ho8x0 := ho8x0.ext hD16
      replace ho11x0 := ho11x0.ext hD16
      replace ho12x1 := ho12x1.ext hD16
      replace hV1 := hV1.ext hD16
      replace hV7 := hV7.ext hD16
      replace hV10 := hV10.ext hD16
      replace hV14 := hV14.ext hD16
      have hE16 := hE15.trans hD16
      have hsz16 := hD16.size
      refine RL.call rfl (toPlan_any (hs0.ext hE16) (by omega)) ?_
      rintro v w17 ⟨ho17x0, hX17⟩
      have hsz17 := hX17.size
      replace ho3x0 := ho3x0.ext hX17
      replace ho4x0 := ho4x0.ext hX17
      replace ho5x1 := ho5x1.ext hX17
      replace ho8x0 := ho8x0.ext hX17
      replace ho11x0 := ho11x0.ext hX17
      replace ho12x1 := ho12x1.ext hX17
      replace hV1 := hV1.ext hX17
      replace hV7 := hV7.ext hX17
      replace hV10 := hV10.ext hX17
      replace hV14 := hV14.ext hX17
      have hE17 := hE16.trans hX17
      replace ho17x0 := OwP.of ho17x0
      obtain ⟨vp17x, vd17x, vr17x, _, rfl, _⟩ := id ho17x0
      refine RL.nil ?_
      refine Fin.tl (by first | exact hC | (refine Ext.trans hC ?_; assumption)) ?_
      refine TL.op rfl (fun hC => ?_)
      refine RL.call rfl (eqPlan_any ho8x0.rd ho17x0.rd) ?_
      rintro r w18 ⟨rfl, hX18⟩
      have hsz18 := hX18.size
      replace ho3x0 := ho3x0.ext hX18
      replace ho4x0 := ho4x0.ext hX18
      replace ho5x1 := ho5x1.ext hX18
      replace ho8x0 := ho8x0.ext hX18
      replace ho11x0 := ho11x0.ext hX18
      replace ho12x1 := ho12x1.ext hX18
      replace ho17x0 := ho17x0.ext hX18
      replace hV1 := hV1.ext hX18
      replace hV7 := hV7.ext hX18
      replace hV10 := hV10.ext hX18
      replace hV14 := hV14.ext hX18
      have hE18 := hE17.trans hX18
      refine RL.nil ?_
      refine Fin.tl (by first | exact hC | (refine Ext.trans hC ?_; assumption)) ?_
      refine TL.yc rfl rfl (y_not rfl) ?_
      refine TL.nil (fun hC => ?_)
      refine Fin.next ?_
      refine CW.condF rfl (by first | (simp; done) | exact decide_eq_false (by omega) | (simp [*]; done) | assumption) ?_
      refine CW.skip ?_
      refine Fin.next ?_
      refine CW.seq ?_
      refine CW.seq ?_
      refine CW.region ?_
      refine RL.y rfl (y_mov (by conv => lhs; whnf)) ?_
      refine RL.y rfl (y_mov (by conv => lhs; whnf)) ?_
      refine RL.call rfl (toInt64S_any (hs1.ext hE18) (by omega)) ?_
      rintro v w19 ⟨ho19x0, hX19, _⟩
      have hsz19 := hX19.size
      replace ho3x0 := ho3x0.ext hX19
      replace ho4x0 := ho4x0.ext hX19
      replace ho5x1 := ho5x1.ext hX19
      replace ho8x0 := ho8x0.ext hX19
      replace ho11x0 := ho11x0.ext hX19
      replace ho12x1 := ho12x1.ext hX19
      replace ho17x0 := ho17x0.ext hX19
      replace hV1 := hV1.ext hX19
      replace hV7 := hV7.ext hX19
      replace hV10 := hV10.ext hX19
      replace hV14 := hV14.ext hX19
      have hE19 := hE18.trans hX19
      replace ho19x0 := OU.of ho19x0
      refine RL.call rfl (eqInt64S_any ho11x0.sv ho19x0.sv) ?_
      rintro r w20 ⟨rfl, hX20⟩
      have hsz20 := hX20.size
      replace ho3x0 := ho3x0.ext hX20
      replace ho4x0 := ho4x0.ext hX20
      replace ho5x1 := ho5x1.ext hX20
      replace ho8x0 := ho8x0.ext hX20
      replace ho11x0 := ho11x0.ext hX20
      replace ho12x1 := ho12x1.ext hX20
      replace ho17x0 := ho17x0.ext hX20
      replace ho19x0 := ho19x0.ext hX20
      replace hV1 := hV1.ext hX20
      replace hV7 := hV7.ext hX20
      replace hV10 := hV10.ext hX20
      replace hV14 := hV14.ext hX20
      have hE20 := hE19.trans hX20
      refine RL.y rfl (y_not rfl) ?_
      refine RL.nil ?_
      refine Fin.next ?_
      refine CW.condF rfl (by first | (simp; done) | exact decide_eq_false (by omega) | (simp [*]; done) | assumption) ?_
      refine CW.skip ?_
      refine Fin.next ?_
      refine CW.seq ?_
      refine CW.region ?_
      refine RL.y rfl (y_asg rfl) ?_
      refine RL.nil ?_
      refine Fin.next ?_
      refine CW.seq ?_
      refine CW.region ?_
      refine RL.y rfl (y_loads ag33 rfl (eqw (hV10)) rfl) ?_
      refine RL.y rfl (y_mov (v := .int _ _) rfl) ?_
      refine RL.call rfl (markP_own ho8x0 (by omega) (by omega)) ?_
      rintro r w21 ⟨xs21, k21, rfl, ho21, hh21, hk21, hl21, hM21⟩
      have hsz21 := hM21.size
      replace ho3x0 := ho3x0.mod hM21 (by omega)
      replace ho4x0 := ho4x0.mod hM21 (by omega)
      replace ho5x1 := ho5x1.mod hM21 (by omega)
      replace ho11x0 := ho11x0.mod hM21 (by omega)
      replace ho12x1 := ho12x1.mod hM21 (by omega)
      replace ho17x0 := ho17x0.mod hM21 (by omega)
      replace ho19x0 := ho19x0.mod hM21 (by omega)
      replace hV1 := hV1.mod hM21 (by omega)
      replace hV7 := hV7.mod hM21 (by omega)
      replace hV10 := hV10.mod hM21 (by omega)
      replace hV14 := hV14.mod hM21 (by omega)
      have hE21 := Ext.then_mod hE20 hM21 (by omega)
      clear ho8x0
      refine RL.y rfl (y_asg (v := .int _ _) rfl) ?_
      refine RL.nil ?_
      refine Fin.next ?_
      refine CW.seq ?_
      refine CW.region ?_
      refine RL.y rfl (y_mov (by conv => lhs; whnf)) ?_
      refine RL.y rfl (y_mov (v := .int _ _) rfl) ?_
      refine RL.call rfl (markI_own ho11x0 (by omega) (by omega)) ?_
      rintro r w22 ⟨xs22, k22, rfl, ho22, hh22, hk22, hl22, hM22⟩
      have hsz22 := hM22.size
      replace ho3x0 := ho3x0.mod hM22 (by omega)
      replace ho4x0 := ho4x0.mod hM22 (by omega)
      replace ho5x1 := ho5x1.mod hM22 (by omega)
      replace ho21 := ho21.mod hM22 (by omega)
      replace ho12x1 := ho12x1.mod hM22 (by omega)
      replace ho17x0 := ho17x0.mod hM22 (by omega)
      replace ho19x0 := ho19x0.mod hM22 (by omega)
      replace hV1 := hV1.mod hM22 (by omega)
      replace hV7 := hV7.mod hM22 (by omega)
      replace hV10 := hV10.mod hM22 (by omega)
      replace hV14 := hV14.mod hM22 (by omega)
      have hE22 := Ext.then_mod hE21 hM22 (by omega)
      clear ho11x0
      refine RL.y rfl (y_asg (v := .int _ _) rfl) ?_
      refine RL.nil ?_
      refine Fin.next ?_
      refine CW.seq ?_
      refine CW.seq ?_
      refine CW.region ?_
      refine RL.y rfl (y_mov (v := .int _ _) rfl) ?_
      refine RL.y rfl (y_lt rfl rfl) ?_
      refine RL.y rfl (y_mov (v := .bool _) rfl) ?_
      refine RL.force (t := 70) false rfl rfl (by first | (simp; done) | exact decide_eq_false (by omega) | (simp [*]; done) | assumption) ?_
      refine RL.take (t := 70) rfl rfl rfl ?_
      refine RL.y rfl (y_loads ag33 rfl (eqw (hV14)) rfl) ?_
      refine RL.take (t := 70) rfl rfl rfl ?_
      refine RL.y rfl (y_loads ag33 rfl (eqw (hV7)) rfl) ?_
      refine RL.take (t := 70) rfl rfl rfl ?_
      refine RL.call rfl (eqPlan_any ho12x1.rd ho5x1.rd) ?_
      rintro r w23 ⟨rfl, hX23⟩
      have hsz23 := hX23.size
      replace ho3x0 := ho3x0.ext hX23
      replace ho4x0 := ho4x0.ext hX23
      replace ho5x1 := ho5x1.ext hX23
      replace ho21 := ho21.ext hX23
      replace ho22 := ho22.ext hX23
      replace ho12x1 := ho12x1.ext hX23
      replace ho17x0 := ho17x0.ext hX23
      replace ho19x0 := ho19x0.ext hX23
      replace hV1 := hV1.ext hX23
      replace hV7 := hV7.ext hX23
      replace hV10 := hV10.ext hX23
      replace hV14 := hV14.ext hX23
      have hE23 := hE22.trans hX23
      refine RL.take (t := 70) rfl rfl rfl ?_
      refine RL.y rfl (y_not rfl) ?_
      refine RL.y rfl (y_pickF (v := .bool _) rfl rfl) ?_
      refine RL.y rfl (y_mov (v := .bool _) rfl) ?_
      refine RL.force (t := 76) false rfl rfl (by first | (simp; done) | exact decide_eq_false (by omega) | (simp [*]; done) | assumption) ?_
      refine RL.take (t := 76) rfl rfl rfl ?_
      refine RL.y rfl (y_mov (v := .int _ _) rfl) ?_
      refine RL.take (t := 76) rfl rfl rfl ?_
      refine RL.y rfl (y_mov (v := .int _ _) rfl) ?_
      refine RL.take (t := 76) rfl rfl rfl ?_
      refine RL.y rfl (y_ne rfl rfl) ?_
      refine RL.y rfl (y_pickF (v := .bool _) rfl rfl) ?_
      refine RL.nil ?_
      refine Fin.next ?_
      refine CW.condF rfl (by first | (simp; done) | exact decide_eq_false (by omega) | (simp [*]; done) | assumption) ?_
      refine CW.skip ?_
      refine Fin.next ?_
      refine CW.seq ?_
      refine CW.region ?_
      refine RL.y rfl (y_asg rfl) ?_
      refine RL.nil ?_
      refine Fin.next ?_
      refine CW.seq ?_
      refine CW.region ?_
      refine RL.y rfl (y_loads ag33 rfl (eqw (hV14)) rfl) ?_
      refine RL.y rfl (y_mov (v := .int _ _) rfl) ?_
      refine RL.call rfl (markP_own ho12x1 (by omega) (by omega)) ?_
      rintro r w24 ⟨xs24, k24, rfl, ho24, hh24, hk24, hl24, hM24⟩
      have hsz24 := hM24.size
      replace ho3x0 := ho3x0.mod hM24 (by omega)
      replace ho4x0 := ho4x0.mod hM24 (by omega)
      replace ho5x1 := ho5x1.mod hM24 (by omega)
      replace ho21 := ho21.mod hM24 (by omega)
      replace ho22 := ho22.mod hM24 (by omega)
      replace ho17x0 := ho17x0.mod hM24 (by omega)
      replace ho19x0 := ho19x0.mod hM24 (by omega)
      replace hV1 := hV1.mod hM24 (by omega)
      replace hV7 := hV7.mod hM24 (by omega)
      replace hV10 := hV10.mod hM24 (by omega)
      replace hV14 := hV14.mod hM24 (by omega)
      have hE24 := Ext.then_mod hE23 hM24 (by omega)
      clear ho12x1
      refine RL.y rfl (y_asg (v := .int _ _) rfl) ?_
      refine RL.nil ?_
      refine Fin.next ?_
      refine CW.seq ?_
      refine CW.region ?_
      refine RL.y rfl (y_asg rfl) ?_
      refine RL.nil ?_
      refine Fin.next ?_
      refine CW.seq ?_
      refine CW.region ?_
      refine RL.y rfl (y_loads ag33 rfl (eqw (hV14)) rfl) ?_
      refine RL.y rfl (y_mov (v := .int _ _) rfl) ?_
      refine RL.call rfl (heldPlan_any ho24.rd (by omega) (by omega)) ?_
      rintro r w25 ⟨rfl, hX25⟩
      have hsz25 := hX25.size
      replace ho3x0 := ho3x0.ext hX25
      replace ho4x0 := ho4x0.ext hX25
      replace ho5x1 := ho5x1.ext hX25
      replace ho21 := ho21.ext hX25
      replace ho22 := ho22.ext hX25
      replace ho24 := ho24.ext hX25
      replace ho17x0 := ho17x0.ext hX25
      replace ho19x0 := ho19x0.ext hX25
      replace hV1 := hV1.ext hX25
      replace hV7 := hV7.ext hX25
      replace hV10 := hV10.ext hX25
      replace hV14 := hV14.ext hX25
      have hE25 := hE24.trans hX25
      refine RL.y rfl (y_asg (v := .int _ _) rfl) ?_
      refine RL.nil ?_
      refine Fin.next ?_
      refine CW.seq ?_
      refine CW.seq ?_
      refine CW.region ?_
      refine RL.y rfl (y_mov (v := .int _ _) rfl) ?_
      refine RL.y rfl (y_lt rfl rfl) ?_
      refine RL.nil ?_
      refine Fin.next ?_
      refine CW.condF rfl (by first | (simp; done) | exact decide_eq_false (by omega) | (simp [*]; done) | assumption) ?_
      refine CW.skip ?_
      refine Fin.next ?_
      refine CW.seq ?_
      refine CW.seq ?_
      refine CW.region ?_
      refine RL.y rfl (y_mov (v := .int _ _) rfl) ?_
      refine RL.y rfl (y_mov (v := .int _ _) rfl) ?_
      refine RL.y rfl (y_ne rfl rfl) ?_
      refine RL.nil ?_
      refine Fin.next ?_
      refine CW.condF rfl (by first | (simp; done) | exact decide_eq_false (by omega) | (simp [*]; done) | assumption) ?_
      refine CW.skip ?_
      refine Fin.next ?_
      refine CW.seq ?_
      refine CW.region ?_
      refine RL.y rfl (y_loads ag28 rfl (eqw (hV1)) rfl) ?_
      refine RL.call rfl (toPlan_any (hs0.ext hE25) (by omega)) ?_
      rintro v w26 ⟨ho26x0, hX26⟩
      have hsz26 := hX26.size
      replace ho3x0 := ho3x0.ext hX26
      replace ho4x0 := ho4x0.ext hX26
      replace ho5x1 := ho5x1.ext hX26
      replace ho21 := ho21.ext hX26
      replace ho22 := ho22.ext hX26
      replace ho24 := ho24.ext hX26
      replace ho17x0 := ho17x0.ext hX26
      replace ho19x0 := ho19x0.ext hX26
      replace hV1 := hV1.ext hX26
      replace hV7 := hV7.ext hX26
      replace hV10 := hV10.ext hX26
      replace hV14 := hV14.ext hX26
      have hE26 := hE25.trans hX26
      replace ho26x0 := OwP.of ho26x0
      obtain ⟨vp26x, vd26x, vr26x, _, rfl, _⟩ := id ho26x0
      refine RL.y rfl (y_mov (by conv => lhs; whnf)) ?_
      refine RL.call rfl (toInt64S_any (hs1.ext hE26) (by omega)) ?_
      rintro v w27 ⟨ho27x0, hX27, _⟩
      have hsz27 := hX27.size
      replace ho3x0 := ho3x0.ext hX27
      replace ho4x0 := ho4x0.ext hX27
      replace ho5x1 := ho5x1.ext hX27
      replace ho21 := ho21.ext hX27
      replace ho22 := ho22.ext hX27
      replace ho24 := ho24.ext hX27
      replace ho17x0 := ho17x0.ext hX27
      replace ho19x0 := ho19x0.ext hX27
      replace ho26x0 := ho26x0.ext hX27
      replace hV1 := hV1.ext hX27
      replace hV7 := hV7.ext hX27
      replace hV10 := hV10.ext hX27
      replace hV14 := hV14.ext hX27
      have hE27 := hE26.trans hX27
      replace ho27x0 := OU.of ho27x0
      refine RL.call rfl (implAddKey_any ho26x0.rd ho27x0.sv) ?_
      rintro r w28 ⟨v128, rfl, ho28x1, hX28⟩
      have hsz28 := hX28.size
      replace ho3x0 := ho3x0.ext hX28
      replace ho4x0 := ho4x0.ext hX28
      replace ho5x1 := ho5x1.ext hX28
      replace ho21 := ho21.ext hX28
      replace ho22 := ho22.ext hX28
      replace ho24 := ho24.ext hX28
      replace ho17x0 := ho17x0.ext hX28
      replace ho19x0 := ho19x0.ext hX28
      replace ho26x0 := ho26x0.ext hX28
      replace ho27x0 := ho27x0.ext hX28
      replace hV1 := hV1.ext hX28
      replace hV7 := hV7.ext hX28
      replace hV10 := hV10.ext hX28
      replace hV14 := hV14.ext hX28
      have hE28 := hE27.trans hX28
      replace ho28x1 := OwP.of ho28x1
      obtain ⟨vp28x, vd28x, vr28x, _, rfl, _⟩ := id ho28x1
      refine RL.y rfl (y_mov (by conv => lhs; whnf)) ?_
      refine RL.y rfl (y_ext0 rfl) ?_
      refine RL.y rfl (y_ext1 rfl) ?_
      refine RL.alloc rfl ze33 (fun w29 hV29 hX29 => ?_)
      have hsz29 := hX29.size
      replace ho3x0 := ho3x0.ext hX29
      replace ho4x0 := ho4x0.ext hX29
      replace ho5x1 := ho5x1.ext hX29
      replace ho21 := ho21.ext hX29
      replace ho22 := ho22.ext hX29
      replace ho24 := ho24.ext hX29
      replace ho17x0 := ho17x0.ext hX29
      replace ho19x0 := ho19x0.ext hX29
      replace ho26x0 := ho26x0.ext hX29
      replace ho27x0 := ho27x0.ext hX29
      replace ho28x1 := ho28x1.ext hX29
      replace hV1 := hV1.ext hX29
      replace hV7 := hV7.ext hX29
      replace hV10 := hV10.ext hX29
      replace hV14 := hV14.ext hX29
      have hE29 := hE28.trans hX29
      have hlt29 := hV29.lt
      refine RL.stores ag33 (hV29) rfl rfl rfl rfl (ho28x1.one) (fun w30 hV30 hg30 => ?_)
      have hM30 := grown_mod (B := w28.heap.size) (U := w28.heap.size + 1) hg30 (fun k e => by simp only [Option.some.injEq] at e; omega)
      have hsz30 := hM30.size
      replace ho3x0 := ho3x0.mod hM30 (by omega)
      replace ho4x0 := ho4x0.mod hM30 (by omega)
      replace ho5x1 := ho5x1.mod hM30 (by omega)
      replace ho21 := ho21.mod hM30 (by omega)
      replace ho22 := ho22.mod hM30 (by omega)
      replace ho24 := ho24.mod hM30 (by omega)
      replace ho17x0 := ho17x0.mod hM30 (by omega)
      replace ho19x0 := ho19x0.mod hM30 (by omega)
      replace ho26x0 := ho26x0.mod hM30 (by omega)
      replace ho27x0 := ho27x0.mod hM30 (by omega)
      replace ho28x1 := ho28x1.mod hM30 (by omega)
      replace hV1 := hV1.mod hM30 (by omega)
      replace hV7 := hV7.mod hM30 (by omega)
      replace hV10 := hV10.mod hM30 (by omega)
      replace hV14 := hV14.mod hM30 (by omega)
      have hE30 := Ext.then_mod hE29 hM30 (by omega)
      refine RL.y rfl (y_asg (v := .int _ _) rfl) ?_
      refine RL.nil ?_
      refine Fin.next ?_
      refine CW.seq ?_
      refine CW.seq ?_
      refine CW.region ?_
      refine RL.y rfl (y_loads ag33 rfl (eqw (hV30)) rfl) ?_
      refine RL.y rfl (y_loads ag33 rfl (eqw (hV7)) rfl) ?_
      refine RL.call rfl (eqPlan_any ho28x1.rd ho5x1.rd) ?_
      rintro r w31 ⟨rfl, hX31⟩
      have hsz31 := hX31.size
      replace ho3x0 := ho3x0.ext hX31
      replace ho4x0 := ho4x0.ext hX31
      replace ho5x1 := ho5x1.ext hX31
      replace ho21 := ho21.ext hX31
      replace ho22 := ho22.ext hX31
      replace ho24 := ho24.ext hX31
      replace ho17x0 := ho17x0.ext hX31
      replace ho19x0 := ho19x0.ext hX31
      replace ho26x0 := ho26x0.ext hX31
      replace ho27x0 := ho27x0.ext hX31
      replace ho28x1 := ho28x1.ext hX31
      replace hV1 := hV1.ext hX31
      replace hV7 := hV7.ext hX31
      replace hV10 := hV10.ext hX31
      replace hV14 := hV14.ext hX31
      replace hV30 := hV30.ext hX31
      have hE31 := hE30.trans hX31
      refine RL.y rfl (y_not rfl) ?_
      refine RL.y rfl (y_mov (v := .bool _) rfl) ?_
      refine RL.force (t := 104) false rfl rfl (by first | (simp; done) | exact decide_eq_false (by omega) | (simp [*]; done) | assumption) ?_
      refine RL.take (t := 104) rfl rfl rfl ?_
      refine RL.y rfl (y_mov (v := .int _ _) rfl) ?_
      refine RL.take (t := 104) rfl rfl rfl ?_
      refine RL.y rfl (y_mov (v := .int _ _) rfl) ?_
      refine RL.take (t := 104) rfl rfl rfl ?_
      refine RL.y rfl (y_ne rfl rfl) ?_
      refine RL.y rfl (y_pickF (v := .bool _) rfl rfl) ?_
      refine RL.nil ?_
      refine Fin.next ?_
      refine CW.condF rfl (by first | (simp; done) | exact decide_eq_false (by omega) | (simp [*]; done) | assumption) ?_
      refine CW.skip ?_
      refine Fin.next ?_
      refine CW.seq ?_
      refine CW.region ?_
      refine RL.y rfl (y_asg rfl) ?_
      refine RL.nil ?_
      refine Fin.next ?_
      refine CW.seq ?_
      refine CW.region ?_
      refine RL.y rfl (y_loads ag33 rfl (eqw (hV14)) rfl) ?_
      refine RL.y rfl (y_mov (v := .int _ _) rfl) ?_
      refine RL.call rfl (heldPlan_any ho24.rd (by omega) (by omega)) ?_
      rintro r w32 ⟨rfl, hX32⟩
      have hsz32 := hX32.size
      replace ho3x0 := ho3x0.ext hX32
      replace ho4x0 := ho4x0.ext hX32
      replace ho5x1 := ho5x1.ext hX32
      replace ho21 := ho21.ext hX32
      replace ho22 := ho22.ext hX32
      replace ho24 := ho24.ext hX32
      replace ho17x0 := ho17x0.ext hX32
      replace ho19x0 := ho19x0.ext hX32
      replace ho26x0 := ho26x0.ext hX32
      replace ho27x0 := ho27x0.ext hX32
      replace ho28x1 := ho28x1.ext hX32
      replace hV1 := hV1.ext hX32
      replace hV7 := hV7.ext hX32
      replace hV10 := hV10.ext hX32
      replace hV14 := hV14.ext hX32
      replace hV30 := hV30.ext hX32
      have hE32 := hE31.trans hX32
      refine RL.y rfl (y_asg (v := .int _ _) rfl) ?_
      refine RL.nil ?_
      refine Fin.next ?_
      refine CW.seq ?_
      refine CW.seq ?_
      refine CW.region ?_
      refine RL.y rfl (y_mov (v := .int _ _) rfl) ?_
      refine RL.y rfl (y_lt rfl rfl) ?_
      refine RL.nil ?_
      refine Fin.next ?_
      refine CW.condF rfl (by first | (simp; done) | exact decide_eq_false (by omega) | (simp [*]; done) | assumption) ?_
      refine CW.skip ?_
      refine Fin.next ?_
      refine CW.seq ?_
      refine CW.seq ?_
      refine CW.region ?_
      refine RL.y rfl (y_mov (v := .int _ _) rfl) ?_
      refine RL.y rfl (y_mov (v := .int _ _) rfl) ?_
      refine RL.y rfl (y_ne rfl rfl) ?_
      refine RL.nil ?_
      refine Fin.next ?_
      refine CW.condF rfl (by first | (simp; done) | exact decide_eq_false (by omega) | (simp [*]; done) | assumption) ?_
      refine CW.skip ?_
      refine Fin.next ?_
      refine CW.seq ?_
      refine CW.region ?_
      refine RL.y rfl (y_asg rfl) ?_
      refine RL.nil ?_
      refine Fin.next ?_
      refine CW.ret ?_
      refine Fin.ret1 rfl (by conv => lhs; whnf) ?_
      exact ⟨_, rfl, rfl, hE32⟩
namespace fnExactAddKey
open Go.ChangeShapes Go.WideShapes Go.ChangeAt Go.RowKit
set_option linter.unusedVariables false
theorem own : ownKnob Try.prog.godebug = none := by kernel_rfl
theorem laidOut : laidOutB Try.prog = true := by kernel_rfl
set_option maxRecDepth 100000 in
theorem lifted (os : Os) (started : os.Started) (H : Type) (enc : TypeId × Value → H) :
    ReturnsInHanded {} Try.checked os 7 .any (Rows.fnExactAddKeySpec.pre6 enc Try.prog Try.f7 Rows.fnExactAddKeyRow.domain false) (Rows.fnExactAddKeySpec.post enc Try.prog Try.f7 false true false false) := by
  refine returnsInHanded_of_change (C := Try.checked) own started (by kernel_rfl) Try.func7
    (ChangeSpec.witness6 (enc := enc) (C := Try.checked) false ⟨#[], #[.agg #[(.slice none 0 0), (.slice none 0 0), (.slice none 0 0)], .slice none 0 0], []⟩ 8 (by kernel_rfl) (by kernel_rfl) (by kernel_rfl) (by kernel_rfl)) ?_
  intro W base args ds gs before hval0 hW hcnd _
  have hval : ∀ (j : Nat) t v, Try.f7.params[j]? = some t → args[j]? = some v → Value.okWide Try.prog W .any base t v := hval0
  have hW' := hW
  obtain ⟨p, q, hA0, hV, rfl, hfz, hnd⟩ := hW
  have hA : DataW.TrodAll enc Try.prog W 0 (fun _ => true) true Try.f7.params.toList args.toList ds p := hA0
  rw [Try.params7] at hA hval
  have hkeep := hA
  obtain ⟨v0, vs0, d0, ds0, p0, q0, hargs, rfl, rfl, h0, r0⟩ := trodAll_cons hA
  obtain ⟨v1, vs1, d1, ds1, p1, q1, rfl, rfl, rfl, h1, r1⟩ := trodAll_cons r0
  obtain ⟨rfl, rfl, rfl⟩ := trodAll_nil r1
  obtain rfl : args = #[v0, v1] := by cases args; simp_all
  obtain ⟨rfl, rfl⟩ := trodVars_none hV
  obtain ⟨vp0, vd0, vr0, yp0, yd0, yr0, n0, m0, hag0, tp0, td0, tr0⟩ := open_agg21 Try.underlying28 Try.underlying25 rfl (by kernel_rfl) (hval 0 28 v0 rfl rfl) h0
  obtain ⟨ps0, hp0, wf0⟩ := open_SIt Try.underlying22 Try.underlying2 (by kernel_rfl) tp0
  obtain ⟨ds0, hd0⟩ := open_SBt Try.underlying23 Try.underlying4 (by kernel_rfl) td0
  obtain ⟨rs0, hr0, _⟩ := open_RdSSt Try.underlying26 Try.underlying22 Try.underlying2 (by kernel_rfl) (by kernel_rfl) tr0
  obtain ⟨xs1, hs1, wf1⟩ := open_SI Try.underlying22 Try.underlying2 (by kernel_rfl) (hval 1 22 v1 rfl rfl) h1
  refine (lawAddKey W v0 ps0 ds0 rs0 ⟨vp0, vd0, vr0, hag0, ⟨vp0, vd0, rfl, hp0, hd0⟩, hr0⟩ wf0 v1 xs1 hs1 wf1).calls.mono fun e W' ⟨r, he, hr, hg⟩ => ?_
  subst hr
  subst he
  exact ⟨_, rfl, _, _, _, [] ++ [], _, [], hW', trodAll_cons_mk (shut_bool Try.underlying4 _) trodAll_mk0, trodAll_ext laidOut (by kernel_rfl) hkeep hg (fun x hx => hW'.lt x (List.mem_append_left _ hx)), rfl, hg.frame _, fun h => by cases h⟩
theorem over : Rows.fnExactAddKeyRow.holds Try.pinned (OpenSpec.ofChange Rows.fnExactAddKeySpec) :=
  OpenClaim.holds_of_wide 7 Try.f7 rfl rfl rfl rfl rfl rfl rfl ⟨rfl, rfl, rfl, rfl, rfl⟩ rfl rfl rfl rfl rfl (by kernel_rfl) Try.func7 (by kernel_rfl)
    (of_decide_eq_true (by kernel_rfl)) (by unfold Func.isWrapper; first | (rw [if_pos (by decide +kernel)]; kernel_rfl) | (rw [if_neg (by decide +kernel)]; exact ⟨rfl, rfl⟩))
    (fun os started H enc _ => lifted os started H enc)
theorem proved : Rows.FnExactAddKeySaid := over
end fnExactAddKey
#print axioms fnExactAddKey.proved
end Go.Proofs.Ytkkeipogkjlneaa
