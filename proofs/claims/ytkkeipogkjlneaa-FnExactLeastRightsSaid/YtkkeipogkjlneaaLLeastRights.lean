/-
  The program's LeastRights returns what the reference's LeastRights returns, for all arguments; the arguments read behind the call as before it. No condition.
-/
import Derived.Test.YtkkeipogkjlneaaFPln4
import Derived.Test.YtkkeipogkjlneaaFMarkP
import Derived.Test.YtkkeipogkjlneaaPln2
import Derived.Test.YtkkeipogkjlneaaLift5
import Derived.Test.YtkkeipogkjlneaaRows
namespace Go.Proofs.Ytkkeipogkjlneaa
open B Go.RowKit

theorem lawLeastRights (w : World) (v0 : Value) (ps0 : List Int) (ds0 : List Bool) (rs0 : List (List Int)) (hs0 : RdP w v0 ps0 ds0 rs0) (_ : ∀ x ∈ ps0, I64 x) (a1 : Int) (_ : I64 a1) :
    Does Try.prog 10 #[v0, .int .i64 a1] w (fun r w' => r = .bool true ∧ Ext w w') := by
  obtain ⟨vp0, vd0, vr0, rfl, _⟩ := id hs0
  have hT0 := sizeN_tot rs0
  have hR := lrV_len ps0 ds0 rs0 a1
  refine enter Try.func10 rfl 101 Try.ntmps10 rfl (by kernel_rfl) ?_
  refine CW.seq ?_
  refine CW.region ?_
  refine RL.box (cs := [vp0, vd0, vr0]) rfl rfl rfl (fun w1 hV1 hX1 => ?_)
  have hsz1 := hX1.size
  have hE1 := hX1
  have hlt1 := hV1.lt
  refine RL.y rfl (y_asg rfl) ?_
  refine RL.nil ?_
  refine Fin.next ?_
  refine CW.seq ?_
  refine CW.region ?_
  refine RL.y rfl (y_asg rfl) ?_
  refine RL.nil ?_
  refine Fin.next ?_
  refine CW.seq ?_
  refine CW.region ?_
  refine RL.y rfl (y_loads ag28 rfl (eqw (hV1)) rfl) ?_
  refine RL.y rfl (y_mov (v := .int _ _) rfl) ?_
  refine RL.call rfl (szPlan_any (hs0.ext hE1) (by omega) (by omega)) ?_
  rintro r w2 ⟨rfl, hX2⟩
  have hsz2 := hX2.size
  replace hV1 := hV1.ext hX2
  have hE2 := hE1.trans hX2
  refine RL.y rfl (y_asg (v := .int _ _) rfl) ?_
  refine RL.nil ?_
  refine Fin.next ?_
  refine CW.seq ?_
  refine CW.seq ?_
  refine CW.region ?_
  refine RL.y rfl (y_mov (v := .int _ _) rfl) ?_
  refine RL.y rfl (y_lt rfl rfl) ?_
  refine RL.nil ?_
  refine Fin.next ?_
  refine CW.cond rfl rfl (fun hbig1 => ?_) (fun hbig1 => ?_)
  · with_reducible first | (replace hbig1 := deNF hbig1) | (replace hbig1 := of_decide_eq_true hbig1) | (replace hbig1 := of_decide_eq_false hbig1) | (replace hbig1 := deNT hbig1) | (replace hbig1 := deNN hbig1) | (replace hbig1 := bnT hbig1) | (replace hbig1 := bnF hbig1) | skip
    refine CW.seq ?_
    refine CW.region ?_
    refine RL.y rfl (y_asg rfl) ?_
    refine RL.nil ?_
    refine Fin.next ?_
    refine CW.ret ?_
    refine Fin.thenRet ?_
    refine Fin.ret1 rfl (by conv => lhs; whnf) ?_
    exact ⟨_, rfl, rfl, hE2⟩
  · with_reducible first | (replace hbig1 := deNF hbig1) | (replace hbig1 := of_decide_eq_true hbig1) | (replace hbig1 := of_decide_eq_false hbig1) | (replace hbig1 := deNT hbig1) | (replace hbig1 := deNN hbig1) | (replace hbig1 := bnT hbig1) | (replace hbig1 := bnF hbig1) | skip
    obtain ⟨hsz1, hszv1⟩ := szV_ok hbig1
    refine CW.skip ?_
    refine Fin.next ?_
    refine CW.seq ?_
    refine CW.region ?_
    refine RL.y rfl (y_loads ag28 rfl (eqw (hV1)) rfl) ?_
    refine RL.call rfl (toPlan_any (hs0.ext hE2) (by omega)) ?_
    rintro v w3 ⟨ho3x0, hX3⟩
    have hsz3 := hX3.size
    replace hV1 := hV1.ext hX3
    have hE3 := hE2.trans hX3
    replace ho3x0 := OwP.of ho3x0
    obtain ⟨vp3x, vd3x, vr3x, _, rfl, _⟩ := id ho3x0
    refine RL.y rfl (y_mov (v := .int _ _) rfl) ?_
    refine RL.call rfl (specLeastRights_any ho3x0.rd) ?_
    rintro r w4 ⟨v14, rfl, ho4x1, hX4⟩
    have hsz4 := hX4.size
    replace ho3x0 := ho3x0.ext hX4
    replace hV1 := hV1.ext hX4
    have hE4 := hE3.trans hX4
    replace ho4x1 := OU.of ho4x1
    refine RL.y rfl (y_mov (by conv => lhs; whnf)) ?_
    refine RL.y rfl (y_ext0 rfl) ?_
    refine RL.y rfl (y_ext1 rfl) ?_
    refine RL.y rfl (y_asg (by conv => lhs; whnf)) ?_
    refine RL.y rfl (y_asg (v := .int _ _) rfl) ?_
    refine RL.nil ?_
    refine Fin.next ?_
    refine CW.seq ?_
    refine CW.region ?_
    refine RL.y rfl (y_loads ag28 rfl (eqw (hV1)) rfl) ?_
    refine RL.call rfl (toPlan_any (hs0.ext hE4) (by omega)) ?_
    rintro v w5 ⟨ho5x0, hX5⟩
    have hsz5 := hX5.size
    replace ho3x0 := ho3x0.ext hX5
    replace ho4x1 := ho4x1.ext hX5
    replace hV1 := hV1.ext hX5
    have hE5 := hE4.trans hX5
    replace ho5x0 := OwP.of ho5x0
    obtain ⟨vp5x, vd5x, vr5x, _, rfl, _⟩ := id ho5x0
    refine RL.alloc rfl ze33 (fun w6 hV6 hX6 => ?_)
    have hsz6 := hX6.size
    replace ho3x0 := ho3x0.ext hX6
    replace ho4x1 := ho4x1.ext hX6
    replace ho5x0 := ho5x0.ext hX6
    replace hV1 := hV1.ext hX6
    have hE6 := hE5.trans hX6
    have hlt6 := hV6.lt
    refine RL.stores ag33 (hV6) rfl rfl rfl rfl (ho5x0.one) (fun w7 hV7 hg7 => ?_)
    have hM7 := grown_mod (B := w5.heap.size) (U := w5.heap.size + 1) hg7 (fun k e => by simp only [Option.some.injEq] at e; omega)
    have hsz7 := hM7.size
    replace ho3x0 := ho3x0.mod hM7 (by omega)
    replace ho4x1 := ho4x1.mod hM7 (by omega)
    replace ho5x0 := ho5x0.mod hM7 (by omega)
    replace hV1 := hV1.mod hM7 (by omega)
    have hE7 := Ext.then_mod hE6 hM7 (by omega)
    refine RL.nil ?_
    refine Fin.next ?_
    refine CW.seq ?_
    refine CW.region ?_
    refine RL.y rfl (y_loads ag33 rfl (eqw (hV7)) rfl) ?_
    refine RL.y rfl (y_mov (v := .int _ _) rfl) ?_
    refine RL.call rfl (implLeastRights_any ho5x0.rd) ?_
    rintro r w8 ⟨v18, rfl, ho8x1, hX8⟩
    have hsz8 := hX8.size
    replace ho3x0 := ho3x0.ext hX8
    replace ho4x1 := ho4x1.ext hX8
    replace ho5x0 := ho5x0.ext hX8
    replace hV1 := hV1.ext hX8
    replace hV7 := hV7.ext hX8
    have hE8 := hE7.trans hX8
    replace ho8x1 := OU.of ho8x1
    refine RL.y rfl (y_mov (by conv => lhs; whnf)) ?_
    refine RL.y rfl (y_ext0 rfl) ?_
    refine RL.y rfl (y_ext1 rfl) ?_
    refine RL.y rfl (y_asg (by conv => lhs; whnf)) ?_
    refine RL.y rfl (y_asg (v := .int _ _) rfl) ?_
    refine RL.nil ?_
    refine Fin.next ?_
    refine CW.seq ?_
    refine CW.seq ?_
    refine CW.region ?_
    refine RL.y rfl (y_mov (by conv => lhs; whnf)) ?_
    refine RL.y rfl (y_mov (by conv => lhs; whnf)) ?_
    refine RL.call rfl (eqInt64S_any ho8x1.sv ho4x1.sv) ?_
    rintro r w9 ⟨rfl, hX9⟩
    have hsz9 := hX9.size
    replace ho3x0 := ho3x0.ext hX9
    replace ho4x1 := ho4x1.ext hX9
    replace ho5x0 := ho5x0.ext hX9
    replace ho8x1 := ho8x1.ext hX9
    replace hV1 := hV1.ext hX9
    replace hV7 := hV7.ext hX9
    have hE9 := hE8.trans hX9
    refine RL.y rfl (y_not rfl) ?_
    refine RL.y rfl (y_mov (v := .bool _) rfl) ?_
    refine RL.force (t := 40) false rfl rfl (by first | (simp; done) | exact decide_eq_false (by omega) | (simp [*]; done) | assumption) ?_
    refine RL.take (t := 40) rfl rfl rfl ?_
    refine RL.y rfl (y_mov (v := .int _ _) rfl) ?_
    refine RL.take (t := 40) rfl rfl rfl ?_
    refine RL.y rfl (y_mov (v := .int _ _) rfl) ?_
    refine RL.take (t := 40) rfl rfl rfl ?_
    refine RL.y rfl (y_ne rfl rfl) ?_
    refine RL.y rfl (y_pickF (v := .bool _) rfl rfl) ?_
    refine RL.nil ?_
    refine Fin.next ?_
    refine CW.condF rfl (by first | (simp; done) | exact decide_eq_false (by omega) | (simp [*]; done) | assumption) ?_
    refine CW.skip ?_
    refine Fin.next ?_
    refine CW.seq ?_
    refine CW.seq ?_
    refine CW.tape (Ext _) [4, 3, 2] mixed (by kernel_rfl) (by kernel_rfl) (Ext.drew _) ?_
    refine TL.y rfl rfl (y_loads ag33 rfl (fun _ hC => (hV7).ext hC) rfl) ?_
    refine TL.y rfl rfl (y_loads ag28 rfl (fun _ hC => (hV1).ext hC) rfl) ?_
    refine TL.op rfl (fun hC => ?_)
    have hD10 := hC
    have ho3x0z := ho3x0
    have ho4x1z := ho4x1
    have ho5x0z := ho5x0
    have ho8x1z := ho8x1
    replace ho3x0 := ho3x0.ext hD10
    replace ho4x1 := ho4x1.ext hD10
    replace ho5x0 := ho5x0.ext hD10
    replace ho8x1 := ho8x1.ext hD10
    replace hV1 := hV1.ext hD10
    replace hV7 := hV7.ext hD10
    have hE10 := hE9.trans hD10
    have hsz10 := hD10.size
    refine RL.call rfl (toPlan_any (hs0.ext hE10) (by omega)) ?_
    rintro v w11 ⟨ho11x0, hX11⟩
    have hsz11 := hX11.size
    replace ho3x0 := ho3x0.ext hX11
    replace ho4x1 := ho4x1.ext hX11
    replace ho5x0 := ho5x0.ext hX11
    replace ho8x1 := ho8x1.ext hX11
    replace hV1 := hV1.ext hX11
    replace hV7 := hV7.ext hX11
    have hE11 := hE10.trans hX11
    replace ho11x0 := OwP.of ho11x0
    obtain ⟨vp11x, vd11x, vr11x, _, rfl, _⟩ := id ho11x0
    refine RL.nil ?_
    refine Fin.tl (by first | exact hC | (refine Ext.trans hC ?_; assumption)) ?_
    refine TL.op rfl (fun hC => ?_)
    refine RL.call rfl (eqPlan_any ho5x0.rd ho11x0.rd) ?_
    rintro r w12 ⟨rfl, hX12⟩
    have hsz12 := hX12.size
    replace ho3x0 := ho3x0.ext hX12
    replace ho4x1 := ho4x1.ext hX12
    replace ho5x0 := ho5x0.ext hX12
    replace ho8x1 := ho8x1.ext hX12
    replace ho11x0 := ho11x0.ext hX12
    replace hV1 := hV1.ext hX12
    replace hV7 := hV7.ext hX12
    have hE12 := hE11.trans hX12
    refine RL.nil ?_
    refine Fin.tl (by first | exact hC | (refine Ext.trans hC ?_; assumption)) ?_
    refine TL.yc rfl rfl (y_not rfl) ?_
    refine TL.nil (fun hC => ?_)
    refine Fin.next ?_
    refine CW.condF rfl (by first | (simp; done) | exact decide_eq_false (by omega) | (simp [*]; done) | assumption) ?_
    refine CW.skip ?_
    refine Fin.next ?_
    refine CW.seq ?_
    refine CW.region ?_
    refine RL.y rfl (y_asg rfl) ?_
    refine RL.nil ?_
    refine Fin.next ?_
    refine CW.seq ?_
    refine CW.region ?_
    refine RL.y rfl (y_loads ag33 rfl (eqw (hV7)) rfl) ?_
    refine RL.y rfl (y_mov (v := .int _ _) rfl) ?_
    refine RL.call rfl (markP_own ho5x0 (by omega) (by omega)) ?_
    rintro r w13 ⟨xs13, k13, rfl, ho13, hh13, hk13, hl13, hM13⟩
    replace ho3x0 := ho3x0.mod hM13 (by omega)
    replace ho4x1 := ho4x1.mod hM13 (by omega)
    replace ho8x1 := ho8x1.mod hM13 (by omega)
    replace ho11x0 := ho11x0.mod hM13 (by omega)
    replace hV1 := hV1.mod hM13 (by omega)
    replace hV7 := hV7.mod hM13 (by omega)
    have hE13 := Ext.then_mod hE12 hM13 (by omega)
    clear ho5x0
    refine RL.y rfl (y_asg (v := .int _ _) rfl) ?_
    refine RL.nil ?_
    refine Fin.next ?_
    refine CW.seq ?_
    refine CW.seq ?_
    refine CW.region ?_
    refine RL.y rfl (y_mov (v := .int _ _) rfl) ?_
    refine RL.y rfl (y_lt rfl rfl) ?_
    refine RL.y rfl (y_mov (v := .bool _) rfl) ?_
    refine RL.force (t := 55) false rfl rfl (by first | (simp; done) | exact decide_eq_false (by omega) | (simp [*]; done) | assumption) ?_
    refine RL.take (t := 55) rfl rfl rfl ?_
    refine RL.y rfl (y_mov (by conv => lhs; whnf)) ?_
    refine RL.take (t := 55) rfl rfl rfl ?_
    refine RL.y rfl (y_mov (by conv => lhs; whnf)) ?_
    refine RL.take (t := 55) rfl rfl rfl ?_
    refine RL.call rfl (eqInt64S_any ho8x1.sv ho4x1.sv) ?_
    rintro r w14 ⟨rfl, hX14⟩
    have hsz14 := hX14.size
    replace ho3x0 := ho3x0.ext hX14
    replace ho4x1 := ho4x1.ext hX14
    replace ho13 := ho13.ext hX14
    replace ho8x1 := ho8x1.ext hX14
    replace ho11x0 := ho11x0.ext hX14
    replace hV1 := hV1.ext hX14
    replace hV7 := hV7.ext hX14
    have hE14 := hE13.trans hX14
    refine RL.take (t := 55) rfl rfl rfl ?_
    refine RL.y rfl (y_not rfl) ?_
    refine RL.y rfl (y_pickF (v := .bool _) rfl rfl) ?_
    refine RL.y rfl (y_mov (v := .bool _) rfl) ?_
    refine RL.force (t := 61) false rfl rfl (by first | (simp; done) | exact decide_eq_false (by omega) | (simp [*]; done) | assumption) ?_
    refine RL.take (t := 61) rfl rfl rfl ?_
    refine RL.y rfl (y_mov (v := .int _ _) rfl) ?_
    refine RL.take (t := 61) rfl rfl rfl ?_
    refine RL.y rfl (y_mov (v := .int _ _) rfl) ?_
    refine RL.take (t := 61) rfl rfl rfl ?_
    refine RL.y rfl (y_ne rfl rfl) ?_
    refine RL.y rfl (y_pickF (v := .bool _) rfl rfl) ?_
    refine RL.nil ?_
    refine Fin.next ?_
    refine CW.condF rfl (by first | (simp; done) | exact decide_eq_false (by omega) | (simp [*]; done) | assumption) ?_
    refine CW.skip ?_
    refine Fin.next ?_
    refine CW.seq ?_
    refine CW.region ?_
    refine RL.y rfl (y_asg rfl) ?_
    refine RL.nil ?_
    refine Fin.next ?_
    refine CW.seq ?_
    refine CW.region ?_
    refine RL.y rfl (y_mov (by conv => lhs; whnf)) ?_
    refine RL.y rfl (y_mov (v := .int _ _) rfl) ?_
    refine RL.call rfl (markI_own ho8x1 (by omega) (by omega)) ?_
    rintro r w15 ⟨xs15, k15, rfl, ho15, hh15, hk15, hl15, hM15⟩
    replace ho3x0 := ho3x0.mod hM15 (by omega)
    replace ho4x1 := ho4x1.mod hM15 (by omega)
    replace ho13 := ho13.mod hM15 (by omega)
    replace ho11x0 := ho11x0.mod hM15 (by omega)
    replace hV1 := hV1.mod hM15 (by omega)
    replace hV7 := hV7.mod hM15 (by omega)
    have hE15 := Ext.then_mod hE14 hM15 (by omega)
    clear ho8x1
    refine RL.y rfl (y_asg (v := .int _ _) rfl) ?_
    refine RL.nil ?_
    refine Fin.next ?_
    refine CW.seq ?_
    refine CW.region ?_
    refine RL.y rfl (y_asg rfl) ?_
    refine RL.nil ?_
    refine Fin.next ?_
    refine CW.seq ?_
    refine CW.region ?_
    refine RL.y rfl (y_mov (by conv => lhs; whnf)) ?_
    refine RL.y rfl (y_mov (v := .int _ _) rfl) ?_
    refine RL.call rfl (heldInt64S_any ho15.sv (by omega) (by omega)) ?_
    rintro r w16 ⟨rfl, hX16⟩
    have hsz16 := hX16.size
    replace ho3x0 := ho3x0.ext hX16
    replace ho4x1 := ho4x1.ext hX16
    replace ho13 := ho13.ext hX16
    replace ho15 := ho15.ext hX16
    replace ho11x0 := ho11x0.ext hX16
    replace hV1 := hV1.ext hX16
    replace hV7 := hV7.ext hX16
    have hE16 := hE15.trans hX16
    refine RL.y rfl (y_asg (v := .int _ _) rfl) ?_
    refine RL.nil ?_
    refine Fin.next ?_
    refine CW.seq ?_
    refine CW.seq ?_
    refine CW.region ?_
    refine RL.y rfl (y_mov (v := .int _ _) rfl) ?_
    refine RL.y rfl (y_lt rfl rfl) ?_
    refine RL.nil ?_
    refine Fin.next ?_
    refine CW.condF rfl (by first | (simp; done) | exact decide_eq_false (by omega) | (simp [*]; done) | assumption) ?_
    refine CW.skip ?_
    refine Fin.next ?_
    refine CW.seq ?_
    refine CW.seq ?_
    refine CW.region ?_
    refine RL.y rfl (y_mov (v := .int _ _) rfl) ?_
    refine RL.y rfl (y_mov (v := .int _ _) rfl) ?_
    refine RL.y rfl (y_ne rfl rfl) ?_
    refine RL.nil ?_
    refine Fin.next ?_
    refine CW.condF rfl (by first | (simp; done) | exact decide_eq_false (by omega) | (simp [*]; done) | assumption) ?_
    refine CW.skip ?_
    refine Fin.next ?_
    refine CW.seq ?_
    refine CW.region ?_
    refine RL.y rfl (y_loads ag28 rfl (eqw (hV1)) rfl) ?_
    refine RL.call rfl (toPlan_any (hs0.ext hE16) (by omega)) ?_
    rintro v w17 ⟨ho17x0, hX17⟩
    have hsz17 := hX17.size
    replace ho3x0 := ho3x0.ext hX17
    replace ho4x1 := ho4x1.ext hX17
    replace ho13 := ho13.ext hX17
    replace ho15 := ho15.ext hX17
    replace ho11x0 := ho11x0.ext hX17
    replace hV1 := hV1.ext hX17
    replace hV7 := hV7.ext hX17
    have hE17 := hE16.trans hX17
    replace ho17x0 := OwP.of ho17x0
    obtain ⟨vp17x, vd17x, vr17x, _, rfl, _⟩ := id ho17x0
    refine RL.y rfl (y_mov (v := .int _ _) rfl) ?_
    refine RL.call rfl (implLeastRights_any ho17x0.rd) ?_
    rintro r w18 ⟨v118, rfl, ho18x1, hX18⟩
    have hsz18 := hX18.size
    replace ho3x0 := ho3x0.ext hX18
    replace ho4x1 := ho4x1.ext hX18
    replace ho13 := ho13.ext hX18
    replace ho15 := ho15.ext hX18
    replace ho11x0 := ho11x0.ext hX18
    replace ho17x0 := ho17x0.ext hX18
    replace hV1 := hV1.ext hX18
    replace hV7 := hV7.ext hX18
    have hE18 := hE17.trans hX18
    replace ho18x1 := OU.of ho18x1
    refine RL.y rfl (y_mov (by conv => lhs; whnf)) ?_
    refine RL.y rfl (y_ext0 rfl) ?_
    refine RL.y rfl (y_ext1 rfl) ?_
    refine RL.y rfl (y_asg (by conv => lhs; whnf)) ?_
    refine RL.y rfl (y_asg (v := .int _ _) rfl) ?_
    refine RL.nil ?_
    refine Fin.next ?_
    refine CW.seq ?_
    refine CW.seq ?_
    refine CW.region ?_
    refine RL.y rfl (y_mov (by conv => lhs; whnf)) ?_
    refine RL.y rfl (y_mov (by conv => lhs; whnf)) ?_
    refine RL.call rfl (eqInt64S_any ho18x1.sv ho4x1.sv) ?_
    rintro r w19 ⟨rfl, hX19⟩
    have hsz19 := hX19.size
    replace ho3x0 := ho3x0.ext hX19
    replace ho4x1 := ho4x1.ext hX19
    replace ho13 := ho13.ext hX19
    replace ho15 := ho15.ext hX19
    replace ho11x0 := ho11x0.ext hX19
    replace ho17x0 := ho17x0.ext hX19
    replace ho18x1 := ho18x1.ext hX19
    replace hV1 := hV1.ext hX19
    replace hV7 := hV7.ext hX19
    have hE19 := hE18.trans hX19
    refine RL.y rfl (y_not rfl) ?_
    refine RL.y rfl (y_mov (v := .bool _) rfl) ?_
    refine RL.force (t := 88) false rfl rfl (by first | (simp; done) | exact decide_eq_false (by omega) | (simp [*]; done) | assumption) ?_
    refine RL.take (t := 88) rfl rfl rfl ?_
    refine RL.y rfl (y_mov (v := .int _ _) rfl) ?_
    refine RL.take (t := 88) rfl rfl rfl ?_
    refine RL.y rfl (y_mov (v := .int _ _) rfl) ?_
    refine RL.take (t := 88) rfl rfl rfl ?_
    refine RL.y rfl (y_ne rfl rfl) ?_
    refine RL.y rfl (y_pickF (v := .bool _) rfl rfl) ?_
    refine RL.nil ?_
    refine Fin.next ?_
    refine CW.condF rfl (by first | (simp; done) | exact decide_eq_false (by omega) | (simp [*]; done) | assumption) ?_
    refine CW.skip ?_
    refine Fin.next ?_
    refine CW.seq ?_
    refine CW.region ?_
    refine RL.y rfl (y_asg rfl) ?_
    refine RL.nil ?_
    refine Fin.next ?_
    refine CW.seq ?_
    refine CW.region ?_
    refine RL.y rfl (y_mov (by conv => lhs; whnf)) ?_
    refine RL.y rfl (y_mov (v := .int _ _) rfl) ?_
    refine RL.call rfl (heldInt64S_any ho15.sv (by omega) (by omega)) ?_
    rintro r w20 ⟨rfl, hX20⟩
    have hsz20 := hX20.size
    replace ho3x0 := ho3x0.ext hX20
    replace ho4x1 := ho4x1.ext hX20
    replace ho13 := ho13.ext hX20
    replace ho15 := ho15.ext hX20
    replace ho11x0 := ho11x0.ext hX20
    replace ho17x0 := ho17x0.ext hX20
    replace ho18x1 := ho18x1.ext hX20
    replace hV1 := hV1.ext hX20
    replace hV7 := hV7.ext hX20
    have hE20 := hE19.trans hX20
    refine RL.y rfl (y_asg (v := .int _ _) rfl) ?_
    refine RL.nil ?_
    refine Fin.next ?_
    refine CW.seq ?_
    refine CW.seq ?_
    refine CW.region ?_
    refine RL.y rfl (y_mov (v := .int _ _) rfl) ?_
    refine RL.y rfl (y_lt rfl rfl) ?_
    refine RL.nil ?_
    refine Fin.next ?_
    refine CW.condF rfl (by first | (simp; done) | exact decide_eq_false (by omega) | (simp [*]; done) | assumption) ?_
    refine CW.skip ?_
    refine Fin.next ?_
    refine CW.seq ?_
    refine CW.seq ?_
    refine CW.region ?_
    refine RL.y rfl (y_mov (v := .int _ _) rfl) ?_
    refine RL.y rfl (y_mov (v := .int _ _) rfl) ?_
    refine RL.y rfl (y_ne rfl rfl) ?_
    refine RL.nil ?_
    refine Fin.next ?_
    refine CW.condF rfl (by first | (simp; done) | exact decide_eq_false (by omega) | (simp [*]; done) | assumption) ?_
    refine CW.skip ?_
    refine Fin.next ?_
    refine CW.seq ?_
    refine CW.region ?_
    refine RL.y rfl (y_asg rfl) ?_
    refine RL.nil ?_
    refine Fin.next ?_
    refine CW.ret ?_
    refine Fin.ret1 rfl (by conv => lhs; whnf) ?_
    exact ⟨_, rfl, rfl, hE20⟩
namespace fnExactLeastRights
open Go.ChangeShapes Go.WideShapes Go.ChangeAt Go.RowKit
set_option linter.unusedVariables false
theorem own : ownKnob Try.prog.godebug = none := by kernel_rfl
theorem laidOut : laidOutB Try.prog = true := by kernel_rfl
set_option maxRecDepth 100000 in
theorem lifted (os : Os) (started : os.Started) (H : Type) (enc : TypeId × Value → H) :
    ReturnsInHanded {} Try.checked os 10 .any (Rows.fnExactLeastRightsSpec.pre6 enc Try.prog Try.f10 Rows.fnExactLeastRightsRow.domain false) (Rows.fnExactLeastRightsSpec.post enc Try.prog Try.f10 false true false false) := by
  refine returnsInHanded_of_change (C := Try.checked) own started (by kernel_rfl) Try.func10
    (ChangeSpec.witness6 (enc := enc) (C := Try.checked) false ⟨#[], #[.agg #[(.slice none 0 0), (.slice none 0 0), (.slice none 0 0)], .int .i64 0], []⟩ 8 (by kernel_rfl) (by kernel_rfl) (by kernel_rfl) (by kernel_rfl)) ?_
  intro W base args ds gs before hval0 hW hcnd _
  have hval : ∀ (j : Nat) t v, Try.f10.params[j]? = some t → args[j]? = some v → Value.okWide Try.prog W .any base t v := hval0
  have hW' := hW
  obtain ⟨p, q, hA0, hV, rfl, hfz, hnd⟩ := hW
  have hA : DataW.TrodAll enc Try.prog W 0 (fun _ => true) true Try.f10.params.toList args.toList ds p := hA0
  rw [Try.params10] at hA hval
  have hkeep := hA
  obtain ⟨v0, vs0, d0, ds0, p0, q0, hargs, rfl, rfl, h0, r0⟩ := trodAll_cons hA
  obtain ⟨v1, vs1, d1, ds1, p1, q1, rfl, rfl, rfl, h1, r1⟩ := trodAll_cons r0
  obtain ⟨rfl, rfl, rfl⟩ := trodAll_nil r1
  obtain rfl : args = #[v0, v1] := by cases args; simp_all
  obtain ⟨rfl, rfl⟩ := trodVars_none hV
  obtain ⟨vp0, vd0, vr0, yp0, yd0, yr0, n0, m0, hag0, tp0, td0, tr0⟩ := open_agg21 Try.underlying28 Try.underlying25 rfl (by kernel_rfl) (hval 0 28 v0 rfl rfl) h0
  obtain ⟨ps0, hp0, wf0⟩ := open_SIt Try.underlying22 Try.underlying2 (by kernel_rfl) tp0
  obtain ⟨ds0, hd0⟩ := open_SBt Try.underlying23 Try.underlying4 (by kernel_rfl) td0
  obtain ⟨rs0, hr0, _⟩ := open_RdSSt Try.underlying26 Try.underlying22 Try.underlying2 (by kernel_rfl) (by kernel_rfl) tr0
  obtain ⟨a1, rfl, rfl, rfl, w10⟩ := open_int Try.underlying2 (hval 1 2 v1 rfl rfl) h1
  have w1 := I64.of w10
  refine (lawLeastRights W v0 ps0 ds0 rs0 ⟨vp0, vd0, vr0, hag0, ⟨vp0, vd0, rfl, hp0, hd0⟩, hr0⟩ wf0 a1 w1).calls.mono fun e W' ⟨r, he, hr, hg⟩ => ?_
  subst hr
  subst he
  exact ⟨_, rfl, _, _, _, [] ++ [], _, [], hW', trodAll_cons_mk (shut_bool Try.underlying4 _) trodAll_mk0, trodAll_ext laidOut (by kernel_rfl) hkeep hg (fun x hx => hW'.lt x (List.mem_append_left _ hx)), rfl, hg.frame _, fun h => by cases h⟩
theorem over : Rows.fnExactLeastRightsRow.holds Try.pinned (OpenSpec.ofChange Rows.fnExactLeastRightsSpec) :=
  OpenClaim.holds_of_wide 10 Try.f10 rfl rfl rfl rfl rfl rfl rfl ⟨rfl, rfl, rfl, rfl, rfl⟩ rfl rfl rfl rfl rfl (by kernel_rfl) Try.func10 (by kernel_rfl)
    (of_decide_eq_true (by kernel_rfl)) (by unfold Func.isWrapper; first | (rw [if_pos (by decide +kernel)]; kernel_rfl) | (rw [if_neg (by decide +kernel)]; exact ⟨rfl, rfl⟩))
    (fun os started H enc _ => lifted os started H enc)
theorem proved : Rows.FnExactLeastRightsSaid := over
end fnExactLeastRights
#print axioms fnExactLeastRights.proved
end Go.Proofs.Ytkkeipogkjlneaa
