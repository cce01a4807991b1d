/-
  A key added; doors that nobody may enter; the program's answers are the reference's. No condition.
-/
import Derived.Test.YtkkeipogkjlneaaFDrawP
import Derived.Test.YtkkeipogkjlneaaFLike
import Derived.Test.YtkkeipogkjlneaaPln3
import Derived.Test.YtkkeipogkjlneaaLift6
import Derived.Test.YtkkeipogkjlneaaRows
namespace Go.Proofs.Ytkkeipogkjlneaa
open B Go.RowKit

theorem lawPlans (w : World) (v0 : Value) (l0 : List UInt8) (hs0 : SV w v0 (byts l0)) :
    Does Try.prog 13 #[v0] w (fun r w' => r = .bool true ∧ Ext w w') := by
  refine enter Try.func13 rfl 153 Try.ntmps13 rfl (by kernel_rfl) ?_
  refine CW.seq ?_
  refine CW.region ?_
  refine RL.y rfl (y_asg rfl) ?_
  refine RL.nil ?_
  refine Fin.next ?_
  refine CW.seq ?_
  refine CW.seq ?_
  refine CW.region ?_
  refine RL.y rfl (y_mov (by conv => lhs; whnf)) ?_
  refine RL.call rfl (big_any (hs0.ext (Ext.refl w))) ?_
  rintro r w1 ⟨rfl, rfl⟩
  refine RL.nil ?_
  refine Fin.next ?_
  refine CW.cond rfl rfl (fun hbig => ?_) (fun hbig => ?_)
  · with_reducible first | (replace hbig := deNF hbig) | (replace hbig := of_decide_eq_true hbig) | (replace hbig := of_decide_eq_false hbig) | (replace hbig := deNT hbig) | (replace hbig := deNN hbig) | (replace hbig := bnT hbig) | (replace hbig := bnF hbig) | skip
    refine CW.seq ?_
    refine CW.region ?_
    refine RL.y rfl (y_asg rfl) ?_
    refine RL.nil ?_
    refine Fin.next ?_
    refine CW.ret ?_
    refine Fin.thenRet ?_
    refine Fin.ret1 rfl (by conv => lhs; whnf) ?_
    exact ⟨_, rfl, rfl, (Ext.refl w)⟩
  · with_reducible first | (replace hbig := deNF hbig) | (replace hbig := of_decide_eq_true hbig) | (replace hbig := of_decide_eq_false hbig) | (replace hbig := deNT hbig) | (replace hbig := deNN hbig) | (replace hbig := bnT hbig) | (replace hbig := bnF hbig) | skip
    refine CW.skip ?_
    refine Fin.next ?_
    refine CW.seq ?_
    refine CW.region ?_
    refine RL.y rfl (y_mov (by conv => lhs; whnf)) ?_
    refine RL.call rfl (DrawAddKey_any (hs0.ext (Ext.refl w))) ?_
    rintro r w2 ⟨v12, v22, ps2, ds2, rs2, ns2, rfl, ho2x1, ho2x2, _, _, hX2⟩
    have hsz2 := hX2.size
    have hE2 := hX2
    replace ho2x1 := RuP.of ho2x1
    obtain ⟨vp2x, vd2x, vr2x, rfl, _⟩ := id ho2x1
    replace ho2x2 := OU.of ho2x2
    refine RL.y rfl (y_mov (by conv => lhs; whnf)) ?_
    refine RL.y rfl (y_ext0 rfl) ?_
    refine RL.y rfl (y_ext1 rfl) ?_
    refine RL.alloc rfl ze33 (fun w3 hV3 hX3 => ?_)
    have hsz3 := hX3.size
    replace ho2x1 := ho2x1.ext hX3
    replace ho2x2 := ho2x2.ext hX3
    have hE3 := hE2.trans hX3
    have hlt3 := hV3.lt
    refine RL.stores ag33 (hV3) rfl rfl rfl rfl (ho2x1.one) (fun w4 hV4 hg4 => ?_)
    have hM4 := grown_mod (B := w2.heap.size) (U := w2.heap.size + 1) hg4 (fun k e => by simp only [Option.some.injEq] at e; omega)
    have hsz4 := hM4.size
    replace ho2x1 := ho2x1.mod hM4 (by omega)
    replace ho2x2 := ho2x2.mod hM4 (by omega)
    have hE4 := Ext.then_mod hE3 hM4 (by omega)
    refine RL.y rfl (y_asg (by conv => lhs; whnf)) ?_
    refine RL.nil ?_
    refine Fin.next ?_
    refine CW.seq ?_
    refine CW.region ?_
    refine RL.y rfl (y_loads ag33 rfl (eqw (hV4)) rfl) ?_
    refine RL.y rfl (y_mov (by conv => lhs; whnf)) ?_
    refine RL.call rfl (implAddKey_any ho2x1.rd ho2x2.sv) ?_
    rintro r w5 ⟨v15, rfl, ho5x1, hX5⟩
    have hsz5 := hX5.size
    replace ho2x1 := ho2x1.ext hX5
    replace ho2x2 := ho2x2.ext hX5
    replace hV4 := hV4.ext hX5
    have hE5 := hE4.trans hX5
    replace ho5x1 := OwP.of ho5x1
    obtain ⟨vp5x, vd5x, vr5x, _, rfl, _⟩ := id ho5x1
    refine RL.y rfl (y_mov (by conv => lhs; whnf)) ?_
    refine RL.y rfl (y_ext0 rfl) ?_
    refine RL.y rfl (y_ext1 rfl) ?_
    refine RL.alloc rfl ze33 (fun w6 hV6 hX6 => ?_)
    have hsz6 := hX6.size
    replace ho2x1 := ho2x1.ext hX6
    replace ho2x2 := ho2x2.ext hX6
    replace ho5x1 := ho5x1.ext hX6
    replace hV4 := hV4.ext hX6
    have hE6 := hE5.trans hX6
    have hlt6 := hV6.lt
    refine RL.stores ag33 (hV6) rfl rfl rfl rfl (ho5x1.one) (fun w7 hV7 hg7 => ?_)
    have hM7 := grown_mod (B := w5.heap.size) (U := w5.heap.size + 1) hg7 (fun k e => by simp only [Option.some.injEq] at e; omega)
    have hsz7 := hM7.size
    replace ho2x1 := ho2x1.mod hM7 (by omega)
    replace ho2x2 := ho2x2.mod hM7 (by omega)
    replace ho5x1 := ho5x1.mod hM7 (by omega)
    replace hV4 := hV4.mod hM7 (by omega)
    have hE7 := Ext.then_mod hE6 hM7 (by omega)
    refine RL.y rfl (y_asg (v := .int _ _) rfl) ?_
    refine RL.nil ?_
    refine Fin.next ?_
    refine CW.seq ?_
    refine CW.region ?_
    refine RL.y rfl (y_loads ag33 rfl (eqw (hV4)) rfl) ?_
    refine RL.y rfl (y_mov (by conv => lhs; whnf)) ?_
    refine RL.call rfl (specAddKey_any ho2x1.rd ho2x2.sv) ?_
    rintro r w8 ⟨v18, rfl, ho8x1, hX8⟩
    have hsz8 := hX8.size
    replace ho2x1 := ho2x1.ext hX8
    replace ho2x2 := ho2x2.ext hX8
    replace ho5x1 := ho5x1.ext hX8
    replace hV4 := hV4.ext hX8
    replace hV7 := hV7.ext hX8
    have hE8 := hE7.trans hX8
    replace ho8x1 := RuP.of ho8x1
    obtain ⟨vp8x, vd8x, vr8x, rfl, _⟩ := id ho8x1
    refine RL.y rfl (y_mov (by conv => lhs; whnf)) ?_
    refine RL.y rfl (y_ext0 rfl) ?_
    refine RL.y rfl (y_ext1 rfl) ?_
    refine RL.alloc rfl ze33 (fun w9 hV9 hX9 => ?_)
    have hsz9 := hX9.size
    replace ho2x1 := ho2x1.ext hX9
    replace ho2x2 := ho2x2.ext hX9
    replace ho5x1 := ho5x1.ext hX9
    replace ho8x1 := ho8x1.ext hX9
    replace hV4 := hV4.ext hX9
    replace hV7 := hV7.ext hX9
    have hE9 := hE8.trans hX9
    have hlt9 := hV9.lt
    refine RL.stores ag33 (hV9) rfl rfl rfl rfl (ho8x1.one) (fun w10 hV10 hg10 => ?_)
    have hM10 := grown_mod (B := w8.heap.size) (U := w8.heap.size + 1) hg10 (fun k e => by simp only [Option.some.injEq] at e; omega)
    have hsz10 := hM10.size
    replace ho2x1 := ho2x1.mod hM10 (by omega)
    replace ho2x2 := ho2x2.mod hM10 (by omega)
    replace ho5x1 := ho5x1.mod hM10 (by omega)
    replace ho8x1 := ho8x1.mod hM10 (by omega)
    replace hV4 := hV4.mod hM10 (by omega)
    replace hV7 := hV7.mod hM10 (by omega)
    have hE10 := Ext.then_mod hE9 hM10 (by omega)
    refine RL.y rfl (y_asg (v := .int _ _) rfl) ?_
    refine RL.nil ?_
    refine Fin.next ?_
    refine CW.seq ?_
    refine CW.region ?_
    refine RL.y rfl (y_mov (by conv => lhs; whnf)) ?_
    refine RL.call rfl (DrawUnusedDoors_any (hs0.ext hE10)) ?_
    rintro v w11 ⟨ps11, ds11, rs11, ho11x0, _, hX11⟩
    have hsz11 := hX11.size
    replace ho2x1 := ho2x1.ext hX11
    replace ho2x2 := ho2x2.ext hX11
    replace ho5x1 := ho5x1.ext hX11
    replace ho8x1 := ho8x1.ext hX11
    replace hV4 := hV4.ext hX11
    replace hV7 := hV7.ext hX11
    replace hV10 := hV10.ext hX11
    have hE11 := hE10.trans hX11
    replace ho11x0 := RuP.of ho11x0
    obtain ⟨vp11x, vd11x, vr11x, rfl, _⟩ := id ho11x0
    refine RL.alloc rfl ze33 (fun w12 hV12 hX12 => ?_)
    have hsz12 := hX12.size
    replace ho2x1 := ho2x1.ext hX12
    replace ho2x2 := ho2x2.ext hX12
    replace ho5x1 := ho5x1.ext hX12
    replace ho8x1 := ho8x1.ext hX12
    replace ho11x0 := ho11x0.ext hX12
    replace hV4 := hV4.ext hX12
    replace hV7 := hV7.ext hX12
    replace hV10 := hV10.ext hX12
    have hE12 := hE11.trans hX12
    have hlt12 := hV12.lt
    refine RL.stores ag33 (hV12) rfl rfl rfl rfl (ho11x0.one) (fun w13 hV13 hg13 => ?_)
    have hM13 := grown_mod (B := w11.heap.size) (U := w11.heap.size + 1) hg13 (fun k e => by simp only [Option.some.injEq] at e; omega)
    have hsz13 := hM13.size
    replace ho2x1 := ho2x1.mod hM13 (by omega)
    replace ho2x2 := ho2x2.mod hM13 (by omega)
    replace ho5x1 := ho5x1.mod hM13 (by omega)
    replace ho8x1 := ho8x1.mod hM13 (by omega)
    replace ho11x0 := ho11x0.mod hM13 (by omega)
    replace hV4 := hV4.mod hM13 (by omega)
    replace hV7 := hV7.mod hM13 (by omega)
    replace hV10 := hV10.mod hM13 (by omega)
    have hE13 := Ext.then_mod hE12 hM13 (by omega)
    refine RL.nil ?_
    refine Fin.next ?_
    refine CW.seq ?_
    refine CW.region ?_
    refine RL.y rfl (y_loads ag33 rfl (eqw (hV13)) rfl) ?_
    refine RL.call rfl (implUnusedDoors_any ho11x0.rd) ?_
    rintro r w14 ⟨v114, rfl, ho14x1, hX14⟩
    have hsz14 := hX14.size
    replace ho2x1 := ho2x1.ext hX14
    replace ho2x2 := ho2x2.ext hX14
    replace ho5x1 := ho5x1.ext hX14
    replace ho8x1 := ho8x1.ext hX14
    replace ho11x0 := ho11x0.ext hX14
    replace hV4 := hV4.ext hX14
    replace hV7 := hV7.ext hX14
    replace hV10 := hV10.ext hX14
    replace hV13 := hV13.ext hX14
    have hE14 := hE13.trans hX14
    replace ho14x1 := OU.of ho14x1
    refine RL.y rfl (y_mov (by conv => lhs; whnf)) ?_
    refine RL.y rfl (y_ext0 rfl) ?_
    refine RL.y rfl (y_ext1 rfl) ?_
    refine RL.y rfl (y_asg (by conv => lhs; whnf)) ?_
    refine RL.y rfl (y_asg (v := .int _ _) rfl) ?_
    refine RL.nil ?_
    refine Fin.next ?_
    refine CW.seq ?_
    refine CW.region ?_
    refine RL.y rfl (y_loads ag33 rfl (eqw (hV13)) rfl) ?_
    refine RL.call rfl (specUnusedDoors_any ho11x0.rd) ?_
    rintro r w15 ⟨v115, rfl, ho15x1, hX15⟩
    have hsz15 := hX15.size
    replace ho2x1 := ho2x1.ext hX15
    replace ho2x2 := ho2x2.ext hX15
    replace ho5x1 := ho5x1.ext hX15
    replace ho8x1 := ho8x1.ext hX15
    replace ho11x0 := ho11x0.ext hX15
    replace ho14x1 := ho14x1.ext hX15
    replace hV4 := hV4.ext hX15
    replace hV7 := hV7.ext hX15
    replace hV10 := hV10.ext hX15
    replace hV13 := hV13.ext hX15
    have hE15 := hE14.trans hX15
    replace ho15x1 := OU.of ho15x1
    refine RL.y rfl (y_mov (by conv => lhs; whnf)) ?_
    refine RL.y rfl (y_ext0 rfl) ?_
    refine RL.y rfl (y_ext1 rfl) ?_
    refine RL.y rfl (y_asg (by conv => lhs; whnf)) ?_
    refine RL.y rfl (y_asg (v := .int _ _) rfl) ?_
    refine RL.nil ?_
    refine Fin.next ?_
    refine CW.seq ?_
    refine CW.seq ?_
    refine CW.region ?_
    refine RL.y rfl (y_mov (v := .int _ _) rfl) ?_
    refine RL.y rfl (y_mov (v := .int _ _) rfl) ?_
    refine RL.y rfl (y_ne rfl rfl) ?_
    refine RL.y rfl (y_mov (v := .bool _) rfl) ?_
    refine RL.force (t := 55) false rfl rfl (by first | (simp; done) | exact decide_eq_false (by omega) | (simp [*]; done) | assumption) ?_
    refine RL.take (t := 55) rfl rfl rfl ?_
    refine RL.y rfl (y_loads ag33 rfl (eqw (hV7)) rfl) ?_
    refine RL.take (t := 55) rfl rfl rfl ?_
    refine RL.y rfl (y_loads ag33 rfl (eqw (hV10)) rfl) ?_
    refine RL.take (t := 55) rfl rfl rfl ?_
    refine RL.call rfl (likePlans_any ho5x1.rd ho8x1.rd) ?_
    rintro r w16 ⟨rfl, hX16⟩
    have hsz16 := hX16.size
    replace ho2x1 := ho2x1.ext hX16
    replace ho2x2 := ho2x2.ext hX16
    replace ho5x1 := ho5x1.ext hX16
    replace ho8x1 := ho8x1.ext hX16
    replace ho11x0 := ho11x0.ext hX16
    replace ho14x1 := ho14x1.ext hX16
    replace ho15x1 := ho15x1.ext hX16
    replace hV4 := hV4.ext hX16
    replace hV7 := hV7.ext hX16
    replace hV10 := hV10.ext hX16
    replace hV13 := hV13.ext hX16
    have hE16 := hE15.trans hX16
    refine RL.take (t := 55) rfl rfl rfl ?_
    refine RL.y rfl (y_not rfl) ?_
    refine RL.y rfl (y_pickF (v := .bool _) rfl rfl) ?_
    refine RL.y rfl (y_mov (v := .bool _) rfl) ?_
    refine RL.force (t := 61) false rfl rfl (by first | (simp; done) | exact decide_eq_false (by omega) | (simp [*]; done) | assumption) ?_
    refine RL.take (t := 61) rfl rfl rfl ?_
    refine RL.y rfl (y_mov (v := .int _ _) rfl) ?_
    refine RL.take (t := 61) rfl rfl rfl ?_
    refine RL.y rfl (y_mov (v := .int _ _) rfl) ?_
    refine RL.take (t := 61) rfl rfl rfl ?_
    refine RL.y rfl (y_ne rfl rfl) ?_
    refine RL.y rfl (y_pickF (v := .bool _) rfl rfl) ?_
    refine RL.y rfl (y_mov (v := .bool _) rfl) ?_
    refine RL.force (t := 66) false rfl rfl (by first | (simp; done) | exact decide_eq_false (by omega) | (simp [*]; done) | assumption) ?_
    refine RL.take (t := 66) rfl rfl rfl ?_
    refine RL.y rfl (y_mov (by conv => lhs; whnf)) ?_
    refine RL.take (t := 66) rfl rfl rfl ?_
    refine RL.y rfl (y_mov (by conv => lhs; whnf)) ?_
    refine RL.take (t := 66) rfl rfl rfl ?_
    refine RL.call rfl (likeInts_any ho14x1.sv ho15x1.sv) ?_
    rintro r w17 ⟨rfl, hX17⟩
    have hsz17 := hX17.size
    replace ho2x1 := ho2x1.ext hX17
    replace ho2x2 := ho2x2.ext hX17
    replace ho5x1 := ho5x1.ext hX17
    replace ho8x1 := ho8x1.ext hX17
    replace ho11x0 := ho11x0.ext hX17
    replace ho14x1 := ho14x1.ext hX17
    replace ho15x1 := ho15x1.ext hX17
    replace hV4 := hV4.ext hX17
    replace hV7 := hV7.ext hX17
    replace hV10 := hV10.ext hX17
    replace hV13 := hV13.ext hX17
    have hE17 := hE16.trans hX17
    refine RL.take (t := 66) rfl rfl rfl ?_
    refine RL.y rfl (y_not rfl) ?_
    refine RL.y rfl (y_pickF (v := .bool _) rfl rfl) ?_
    refine RL.nil ?_
    refine Fin.next ?_
    refine CW.condF rfl (by first | (simp; done) | exact decide_eq_false (by omega) | (simp [*]; done) | assumption) ?_
    refine CW.skip ?_
    refine Fin.next ?_
    refine CW.seq ?_
    refine CW.seq ?_
    refine CW.region ?_
    refine RL.y rfl (y_mov (v := .int _ _) rfl) ?_
    refine RL.y rfl (y_eq rfl rfl) ?_
    refine RL.nil ?_
    refine Fin.next ?_
    refine CW.cond rfl rfl (fun h1 => ?_) (fun h1 => ?_)
    · with_reducible first | (replace h1 := deNF h1) | (replace h1 := of_decide_eq_true h1) | (replace h1 := of_decide_eq_false h1) | (replace h1 := deNT h1) | (replace h1 := deNN h1) | (replace h1 := bnT h1) | (replace h1 := bnF h1) | skip
      have hn0 := plC_root h1
      have hR := duV_len ps11 ds11 0
      refine CW.seq ?_
      refine CW.region ?_
      refine RL.y rfl (y_fa fa33_0 rfl rfl) ?_
      refine RL.y rfl (y_loadp (ds := [vp11x, vd11x]) ag31 (eqw (hV13)) rfl rfl rfl) ?_
      refine RL.call rfl (implDoorsOf_any ho11x0.rd.bl2) ?_
      rintro r w18 ⟨v118, rfl, ho18x1, hX18⟩
      have hsz18 := hX18.size
      replace ho2x1 := ho2x1.ext hX18
      replace ho2x2 := ho2x2.ext hX18
      replace ho5x1 := ho5x1.ext hX18
      replace ho8x1 := ho8x1.ext hX18
      replace ho11x0 := ho11x0.ext hX18
      replace ho14x1 := ho14x1.ext hX18
      replace ho15x1 := ho15x1.ext hX18
      replace hV4 := hV4.ext hX18
      replace hV7 := hV7.ext hX18
      replace hV10 := hV10.ext hX18
      replace hV13 := hV13.ext hX18
      have hE18 := hE17.trans hX18
      replace ho18x1 := OU.of ho18x1
      refine RL.y rfl (y_mov (by conv => lhs; whnf)) ?_
      refine RL.y rfl (y_ext0 rfl) ?_
      refine RL.y rfl (y_ext1 rfl) ?_
      refine RL.y rfl (y_asg (by conv => lhs; whnf)) ?_
      refine RL.y rfl (y_asg (v := .int _ _) rfl) ?_
      refine RL.nil ?_
      refine Fin.next ?_
      refine CW.seq ?_
      refine CW.region ?_
      refine RL.y rfl (y_fa fa33_0 rfl rfl) ?_
      refine RL.y rfl (y_loadp (ds := [vp11x, vd11x]) ag31 (eqw (hV13)) rfl rfl rfl) ?_
      refine RL.call rfl (specDoorsOf_any ho11x0.rd.bl2) ?_
      rintro r w19 ⟨v119, rfl, ho19x1, hX19⟩
      have hsz19 := hX19.size
      replace ho2x1 := ho2x1.ext hX19
      replace ho2x2 := ho2x2.ext hX19
      replace ho5x1 := ho5x1.ext hX19
      replace ho8x1 := ho8x1.ext hX19
      replace ho11x0 := ho11x0.ext hX19
      replace ho14x1 := ho14x1.ext hX19
      replace ho15x1 := ho15x1.ext hX19
      replace ho18x1 := ho18x1.ext hX19
      replace hV4 := hV4.ext hX19
      replace hV7 := hV7.ext hX19
      replace hV10 := hV10.ext hX19
      replace hV13 := hV13.ext hX19
      have hE19 := hE18.trans hX19
      replace ho19x1 := OU.of ho19x1
      refine RL.y rfl (y_mov (by conv => lhs; whnf)) ?_
      refine RL.y rfl (y_ext0 rfl) ?_
      refine RL.y rfl (y_ext1 rfl) ?_
      refine RL.y rfl (y_asg (by conv => lhs; whnf)) ?_
      refine RL.y rfl (y_asg (v := .int _ _) rfl) ?_
      refine RL.nil ?_
      refine Fin.next ?_
      refine CW.seq ?_
      refine CW.seq ?_
      refine CW.region ?_
      refine RL.y rfl (y_mov (v := .int _ _) rfl) ?_
      refine RL.y rfl (y_mov (v := .int _ _) rfl) ?_
      refine RL.y rfl (y_ne rfl rfl) ?_
      refine RL.y rfl (y_mov (v := .bool _) rfl) ?_
      refine RL.force (t := 89) false rfl rfl (by first | (simp; done) | exact decide_eq_false (by omega) | (simp [*]; done) | assumption) ?_
      refine RL.take (t := 89) rfl rfl rfl ?_
      refine RL.y rfl (y_mov (by conv => lhs; whnf)) ?_
      refine RL.take (t := 89) rfl rfl rfl ?_
      refine RL.y rfl (y_mov (by conv => lhs; whnf)) ?_
      refine RL.take (t := 89) rfl rfl rfl ?_
      refine RL.call rfl (likeInts_any ho18x1.sv ho19x1.sv) ?_
      rintro r w20 ⟨rfl, hX20⟩
      have hsz20 := hX20.size
      replace ho2x1 := ho2x1.ext hX20
      replace ho2x2 := ho2x2.ext hX20
      replace ho5x1 := ho5x1.ext hX20
      replace ho8x1 := ho8x1.ext hX20
      replace ho11x0 := ho11x0.ext hX20
      replace ho14x1 := ho14x1.ext hX20
      replace ho15x1 := ho15x1.ext hX20
      replace ho18x1 := ho18x1.ext hX20
      replace ho19x1 := ho19x1.ext hX20
      replace hV4 := hV4.ext hX20
      replace hV7 := hV7.ext hX20
      replace hV10 := hV10.ext hX20
      replace hV13 := hV13.ext hX20
      have hE20 := hE19.trans hX20
      refine RL.take (t := 89) rfl rfl rfl ?_
      refine RL.y rfl (y_not rfl) ?_
      refine RL.y rfl (y_pickF (v := .bool _) rfl rfl) ?_
      refine RL.nil ?_
      refine Fin.next ?_
      refine CW.condF rfl (by first | (simp; done) | exact decide_eq_false (by omega) | (simp [*]; done) | assumption) ?_
      refine CW.skip ?_
      refine Fin.next ?_
      refine CW.seq ?_
      refine CW.seq ?_
      refine CW.region ?_
      refine RL.y rfl (y_mov (v := .int _ _) rfl) ?_
      refine RL.y rfl (y_ne rfl rfl) ?_
      refine RL.nil ?_
      refine Fin.next ?_
      refine CW.condF rfl (by first | (simp; done) | exact decide_eq_false (by omega) | (simp [*]; done) | assumption) ?_
      refine CW.skip ?_
      refine Fin.next ?_
      refine CW.seq ?_
      refine CW.region ?_
      refine RL.y rfl (y_asg rfl) ?_
      refine RL.nil ?_
      refine Fin.next ?_
      refine CW.block ?_
      refine CW.loop (fun m E w' => ∃ i : Nat, m = (duV ps11 ds11 0).length - i ∧ i ≤ (duV ps11 ds11 0).length ∧ agrees E [(3, .pointer (some ⟨w2.heap.size, 0, none⟩)), (4, v22), (5, .pointer (some ⟨w5.heap.size, 0, none⟩)), (6, .int .i64 (akC ps2 ds2 rs2 ns2)), (9, .pointer (some ⟨w11.heap.size, 0, none⟩)), (10, v114), (14, v118), (18, .int .i64 (i : Int))] ∧ Ext w20 w') _ ⟨0, rfl, Nat.zero_le _, ⟨rfl, rfl, rfl, rfl, rfl, rfl, rfl, rfl, trivial⟩, Ext.refl _⟩ ?_
      · rintro m E w51 ⟨i, rfl, hki, hagi, hL1⟩
        refine CW.re _ hagi rfl ?_
        clear hagi
        replace ho2x1 := ho2x1.ext hL1
        replace ho2x2 := ho2x2.ext hL1
        replace ho5x1 := ho5x1.ext hL1
        replace ho8x1 := ho8x1.ext hL1
        replace ho11x0 := ho11x0.ext hL1
        replace ho14x1 := ho14x1.ext hL1
        replace ho15x1 := ho15x1.ext hL1
        replace ho18x1 := ho18x1.ext hL1
        replace ho19x1 := ho19x1.ext hL1
        replace hV4 := hV4.ext hL1
        replace hV7 := hV7.ext hL1
        replace hV10 := hV10.ext hL1
        replace hV13 := hV13.ext hL1
        have hE1l := hE20.trans hL1
        refine CW.seq ?_
        refine CW.seq ?_
        refine CW.region ?_
        refine RL.y rfl (y_mov (v := .int _ _) rfl) ?_
        refine RL.y rfl (y_mov (by conv => lhs; whnf)) ?_
        refine RL.y rfl (y_len sT22 ho18x1.sv (ints_len _) rfl) ?_
        refine RL.y rfl (y_lt rfl rfl) ?_
        refine RL.nil ?_
        refine Fin.next ?_
        refine CW.cond rfl rfl (fun hci => ?_) (fun hci => ?_)
        · with_reducible first | (replace hci := deNF hci) | (replace hci := of_decide_eq_true hci) | (replace hci := of_decide_eq_false hci) | (replace hci := deNT hci) | (replace hci := deNN hci) | (replace hci := bnT hci) | (replace hci := bnF hci) | skip
          have hlti : i < (duV ps11 ds11 0).length := by omega
          obtain ⟨hpc, hku⟩ := unused_facts h1 (List.getElem_mem hlti)
          refine CW.skip ?_
          refine Fin.next ?_
          refine CW.seq ?_
          refine CW.block ?_
          refine CW.seq ?_
          refine CW.tape (Ext _) [10, 9, 7, 6, 5] mixed (by kernel_rfl) (by kernel_rfl) (Ext.drew _) ?_
          refine TL.y rfl rfl (y_loads ag33 rfl (fun _ hC => (hV13).ext hC) rfl) ?_
          refine TL.y rfl rfl (y_mov (by conv => lhs; whnf)) ?_
          refine TL.y rfl rfl (y_mov (v := .int _ _) rfl) ?_
          refine TL.y rfl rfl (y_ixa sT22 (fun _ hC => (ho18x1.sv).ext hC) (k := i) (ints_lt hlti) rfl rfl) ?_
          refine TL.y rfl rfl (y_load sc2 (fun _ hC => (ho18x1.sv).ext hC) (B.ints_at hlti) rfl) ?_
          refine TL.op rfl (fun hC => ?_)
          have hD21 := hC
          have ho2x1z := ho2x1
          have ho2x2z := ho2x2
          have ho5x1z := ho5x1
          have ho8x1z := ho8x1
          have ho11x0z := ho11x0
          have ho14x1z := ho14x1
          have ho15x1z := ho15x1
          have ho18x1z := ho18x1
          have ho19x1z := ho19x1
          replace ho2x1 := ho2x1.ext hD21
          replace ho2x2 := ho2x2.ext hD21
          replace ho5x1 := ho5x1.ext hD21
          replace ho8x1 := ho8x1.ext hD21
          replace ho11x0 := ho11x0.ext hD21
          replace ho14x1 := ho14x1.ext hD21
          replace ho15x1 := ho15x1.ext hD21
          replace ho18x1 := ho18x1.ext hD21
          replace ho19x1 := ho19x1.ext hD21
          replace hV4 := hV4.ext hD21
          replace hV7 := hV7.ext hD21
          replace hV10 := hV10.ext hD21
          replace hV13 := hV13.ext hD21
          have hE21 := hE1l.trans hD21
          have hsz21 := hD21.size
          refine RL.call rfl (implKeysFor_any ho11x0.rd) ?_
          rintro r w22 ⟨v122, rfl, ho22x1, hX22⟩
          have hsz22 := hX22.size
          replace ho2x1 := ho2x1.ext hX22
          replace ho2x2 := ho2x2.ext hX22
          replace ho5x1 := ho5x1.ext hX22
          replace ho8x1 := ho8x1.ext hX22
          replace ho11x0 := ho11x0.ext hX22
          replace ho14x1 := ho14x1.ext hX22
          replace ho15x1 := ho15x1.ext hX22
          replace ho18x1 := ho18x1.ext hX22
          replace ho19x1 := ho19x1.ext hX22
          replace hV4 := hV4.ext hX22
          replace hV7 := hV7.ext hX22
          replace hV10 := hV10.ext hX22
          replace hV13 := hV13.ext hX22
          have hE22 := hE21.trans hX22
          replace ho22x1 := OU.of ho22x1
          refine RL.nil ?_
          refine Fin.tl (by first | exact hC | (refine Ext.trans hC ?_; assumption)) ?_
          refine TL.yc rfl rfl (y_mov (by conv => lhs; whnf)) ?_
          refine TL.yc rfl rfl (y_ext0 rfl) ?_
          refine TL.y rfl rfl (y_ext1 rfl) ?_
          refine TL.yc rfl rfl (y_asg (by conv => lhs; whnf)) ?_
          refine TL.yc rfl rfl (y_asg (v := .int _ _) rfl) ?_
          refine TL.nil (fun hC => ?_)
          refine Fin.next ?_
          refine CW.seq ?_
          refine CW.region ?_
          refine RL.y rfl (y_mov (v := .int _ _) rfl) ?_
          refine RL.y rfl (y_ne rfl rfl) ?_
          refine RL.y rfl (y_mov (v := .bool _) rfl) ?_
          refine RL.force (t := 114) false rfl rfl (by first | (simp; done) | exact decide_eq_false (by omega) | (simp [*]; done) | assumption) ?_
          refine RL.take (t := 114) rfl rfl rfl ?_
          refine RL.y rfl (y_mov (by conv => lhs; whnf)) ?_
          refine RL.take (t := 114) rfl rfl rfl ?_
          refine RL.y rfl (y_len sT22 ho22x1.sv (ints_len _) rfl) ?_
          refine RL.take (t := 114) rfl rfl rfl ?_
          refine RL.y rfl (y_eq rfl rfl) ?_
          refine RL.take (t := 114) rfl rfl rfl ?_
          refine RL.y rfl (y_mov (by conv => lhs; whnf)) ?_
          refine RL.take (t := 114) rfl rfl rfl ?_
          refine RL.y rfl (y_mov (by conv => lhs; whnf)) ?_
          refine RL.take (t := 114) rfl rfl rfl ?_
          refine RL.y rfl (y_mov (v := .int _ _) rfl) ?_
          refine RL.take (t := 114) rfl rfl rfl ?_
          refine RL.y rfl (y_ixa sT22 (eqw (ho18x1.sv)) (k := i) (ints_lt hlti) rfl rfl) ?_
          refine RL.take (t := 114) rfl rfl rfl ?_
          refine RL.y rfl (y_load sc2 (eqw (ho18x1.sv)) (B.ints_at hlti) rfl) ?_
          refine RL.take (t := 114) rfl rfl rfl ?_
          refine RL.call rfl (hasInt_any ho14x1.sv) ?_
          rintro r w23 ⟨rfl, rfl⟩
          refine RL.take (t := 114) rfl rfl rfl ?_
          refine RL.y rfl (y_bne Try.underlying4 rfl rfl) ?_
          refine RL.y rfl (y_pickF (v := .bool _) rfl rfl) ?_
          refine RL.nil ?_
          refine Fin.next ?_
          refine CW.condF rfl ((dec_bne (by rw [Int.natCast_eq_zero]; exact hku))) ?_
          refine CW.skip ?_
          refine Fin.blockNormal ?_
          refine Fin.next ?_
          refine CW.region ?_
          refine RL.y rfl (y_mov (v := .int _ _) rfl) ?_
          refine RL.y rfl (y_add rfl rfl (IntWalk.i64_in _ (by omega))) ?_
          refine RL.y rfl (y_asg (v := .int _ _) rfl) ?_
          refine RL.nil ?_
          refine Fin.le ?_
          exact ⟨(duV ps11 ds11 0).length - (i + 1), by omega, i + 1, rfl, hlti, ⟨rfl, rfl, rfl, rfl, rfl, rfl, rfl, rfl, trivial⟩, ((hL1).trans hD21).trans hX22⟩
        · with_reducible first | (replace hci := deNF hci) | (replace hci := of_decide_eq_true hci) | (replace hci := of_decide_eq_false hci) | (replace hci := deNT hci) | (replace hci := deNN hci) | (replace hci := bnT hci) | (replace hci := bnF hci) | skip
          obtain rfl : (duV ps11 ds11 0).length = i := by omega
          refine CW.exit ?_
          refine Fin.thenExit ?_
          refine Fin.thenExit ?_
          refine Fin.blockHit ?_
          refine Fin.next ?_
          refine CW.seq ?_
          refine CW.region ?_
          refine RL.y rfl (y_mov (v := .int _ _) rfl) ?_
          refine RL.y rfl (y_ne rfl rfl) ?_
          refine RL.y rfl (y_mov (v := .bool _) rfl) ?_
          refine RL.split (t := 128) rfl rfl (fun h5 => ?_) (fun h5 => ?_)
          · with_reducible first | (replace h5 := deNF h5) | (replace h5 := of_decide_eq_true h5) | (replace h5 := of_decide_eq_false h5) | (replace h5 := deNT h5) | (replace h5 := deNN h5) | (replace h5 := bnT h5) | (replace h5 := bnF h5) | skip
            refine RL.pass (t := 128) rfl rfl rfl rfl ?_
            refine RL.pass (t := 128) rfl rfl rfl rfl ?_
            refine RL.pass (t := 128) rfl rfl rfl rfl ?_
            refine RL.pass2 (t := 131) rfl rfl rfl rfl ?_
            refine RL.pass2 (t := 131) rfl rfl rfl rfl ?_
            refine RL.pass2 (t := 131) rfl rfl rfl rfl ?_
            refine RL.pass2 (t := 131) rfl rfl rfl rfl ?_
            refine RL.pass2 (t := 131) rfl rfl rfl rfl ?_
            refine RL.pass2 (t := 131) rfl rfl rfl rfl ?_
            refine RL.pass2 (t := 131) rfl rfl rfl rfl ?_
            refine RL.pass2 (t := 131) rfl rfl rfl rfl ?_
            refine RL.pass (t := 128) rfl rfl rfl rfl ?_
            refine RL.pass (t := 128) rfl rfl rfl rfl ?_
            refine RL.pass2 (t := 141) rfl rfl rfl rfl ?_
            refine RL.pass2 (t := 141) rfl rfl rfl rfl ?_
            refine RL.pass2 (t := 141) rfl rfl rfl rfl ?_
            refine RL.pass2 (t := 141) rfl rfl rfl rfl ?_
            refine RL.pass2 (t := 141) rfl rfl rfl rfl ?_
            refine RL.pass2 (t := 141) rfl rfl rfl rfl ?_
            refine RL.pass2 (t := 141) rfl rfl rfl rfl ?_
            refine RL.pass2 (t := 141) rfl rfl rfl rfl ?_
            refine RL.pass2 (t := 141) rfl rfl rfl rfl ?_
            refine RL.pass (t := 128) rfl rfl rfl rfl ?_
            refine RL.y rfl (y_pickT (v := .bool _) rfl rfl) ?_
            refine RL.y rfl (y_asg (v := .bool _) rfl) ?_
            refine RL.nil ?_
            refine Fin.next ?_
            refine CW.ret ?_
            refine Fin.ret1 rfl (by conv => lhs; whnf) ?_
            exact ⟨_, rfl, rfl, hE1l⟩
          · with_reducible first | (replace h5 := deNF h5) | (replace h5 := of_decide_eq_true h5) | (replace h5 := of_decide_eq_false h5) | (replace h5 := deNT h5) | (replace h5 := deNN h5) | (replace h5 := bnT h5) | (replace h5 := bnF h5) | skip
            obtain ⟨e1, e2, e3, e4⟩ := ak_all h5
            refine RL.take (t := 128) rfl rfl rfl ?_
            refine RL.y rfl (y_loads ag33 rfl (eqw (hV7)) rfl) ?_
            refine RL.take (t := 128) rfl rfl rfl ?_
            refine RL.call rfl (implIsPlan_any ho5x1.rd) ?_
            rintro r w24 ⟨rfl, hX24⟩
            have hsz24 := hX24.size
            replace ho2x1 := ho2x1.ext hX24
            replace ho2x2 := ho2x2.ext hX24
            replace ho5x1 := ho5x1.ext hX24
            replace ho8x1 := ho8x1.ext hX24
            replace ho11x0 := ho11x0.ext hX24
            replace ho14x1 := ho14x1.ext hX24
            replace ho15x1 := ho15x1.ext hX24
            replace ho18x1 := ho18x1.ext hX24
            replace ho19x1 := ho19x1.ext hX24
            replace hV4 := hV4.ext hX24
            replace hV7 := hV7.ext hX24
            replace hV10 := hV10.ext hX24
            replace hV13 := hV13.ext hX24
            have hE24 := hE1l.trans hX24
            refine RL.take (t := 128) rfl rfl rfl ?_
            refine RL.y rfl (y_mov (v := .bool _) rfl) ?_
            refine RL.force (t := 131) true rfl rfl ((decide_eq_true (by rw [e1, e2, e3]; exact e4))) ?_
            refine RL.take (t := 131) rfl rfl rfl ?_
            refine RL.y rfl (y_fa fa33_1 rfl rfl) ?_
            refine RL.take (t := 131) rfl rfl rfl ?_
            refine RL.y rfl (y_loadv sc26 (eqw (hV7)) rfl rfl) ?_
            refine RL.take (t := 131) rfl rfl rfl ?_
            obtain ⟨cs2q, hcs2q⟩ := ho5x1.rd.rw3
            refine RL.y rfl (y_len sT26 hcs2q.1 hcs2q.2.1 rfl) ?_
            refine RL.take (t := 131) rfl rfl rfl ?_
            refine RL.y rfl (y_fa fa33_1 rfl rfl) ?_
            refine RL.take (t := 131) rfl rfl rfl ?_
            refine RL.y rfl (y_loadv sc26 (eqw (hV4)) rfl rfl) ?_
            refine RL.take (t := 131) rfl rfl rfl ?_
            obtain ⟨cs3q, hcs3q⟩ := ho2x1.rd.rw3
            refine RL.y rfl (y_len sT26 hcs3q.1 hcs3q.2.1 rfl) ?_
            refine RL.take (t := 131) rfl rfl rfl ?_
            refine RL.y rfl (y_add rfl rfl (IntWalk.i64_in _ (by omega))) ?_
            refine RL.take (t := 131) rfl rfl rfl ?_
            refine RL.y rfl (y_eq rfl rfl) ?_
            refine RL.take (t := 128) rfl rfl rfl ?_
            refine RL.y rfl (y_pickT (v := .bool _) rfl rfl) ?_
            refine RL.take (t := 128) rfl rfl rfl ?_
            refine RL.y rfl (y_mov (v := .bool _) rfl) ?_
            refine RL.force (t := 141) true rfl rfl ((decide_eq_true (by rw [e3]; simp))) ?_
            refine RL.take (t := 141) rfl rfl rfl ?_
            refine RL.y rfl (y_fa fa33_1 rfl rfl) ?_
            obtain ⟨csq, hcsq⟩ := ho5x1.rd.rw3
            have hlq : rs2.length < (akV (akC ps2 ds2 rs2 ns2) (rs2 ++ [ns2])).length := by rw [e3]; simp
            refine RL.take (t := 141) rfl rfl rfl ?_
            refine RL.y rfl (y_loadv sc26 (eqw (hV7)) rfl rfl) ?_
            refine RL.take (t := 141) rfl rfl rfl ?_
            refine RL.y rfl (y_fa fa33_1 rfl rfl) ?_
            refine RL.take (t := 141) rfl rfl rfl ?_
            refine RL.y rfl (y_loadv sc26 (eqw (hV4)) rfl rfl) ?_
            refine RL.take (t := 141) rfl rfl rfl ?_
            obtain ⟨cs4q, hcs4q⟩ := ho2x1.rd.rw3
            refine RL.y rfl (y_len sT26 hcs4q.1 hcs4q.2.1 rfl) ?_
            refine RL.take (t := 141) rfl rfl rfl ?_
            refine RL.y rfl (y_ixa sT26 (eqw (hcsq.1)) (k := rs2.length) (hcsq.lt hlq) rfl rfl) ?_
            refine RL.take (t := 141) rfl rfl rfl ?_
            refine RL.y rfl (y_load sc22 (eqw (hcsq.1)) (hcsq.at hlq) rfl) ?_
            refine RL.take (t := 141) rfl rfl rfl ?_
            refine RL.y rfl (y_mov (by conv => lhs; whnf)) ?_
            refine RL.take (t := 141) rfl rfl rfl ?_
            refine RL.call rfl (likeInts_any (hcsq.row hlq) ho2x2.sv) ?_
            rintro r w25 ⟨rfl, hX25⟩
            have hsz25 := hX25.size
            replace ho2x1 := ho2x1.ext hX25
            replace ho2x2 := ho2x2.ext hX25
            replace ho5x1 := ho5x1.ext hX25
            replace ho8x1 := ho8x1.ext hX25
            replace ho11x0 := ho11x0.ext hX25
            replace ho14x1 := ho14x1.ext hX25
            replace ho15x1 := ho15x1.ext hX25
            replace ho18x1 := ho18x1.ext hX25
            replace ho19x1 := ho19x1.ext hX25
            replace hV4 := hV4.ext hX25
            replace hV7 := hV7.ext hX25
            replace hV10 := hV10.ext hX25
            replace hV13 := hV13.ext hX25
            have hE25 := hE24.trans hX25
            refine RL.take (t := 128) rfl rfl rfl ?_
            refine RL.y rfl (y_pickT (v := .bool _) rfl rfl) ?_
            refine RL.y rfl (y_pickF (v := .bool _) rfl rfl) ?_
            refine RL.y rfl (y_asg (v := .bool _) rfl) ?_
            refine RL.nil ?_
            refine Fin.next ?_
            refine CW.ret ?_
            refine Fin.ret1 rfl (by conv => lhs; whnf) ?_
            exact ⟨_, rfl, congrArg Value.bool (decide_eq_true (by simp [e3])), hE25⟩
    · with_reducible first | (replace h1 := deNF h1) | (replace h1 := of_decide_eq_true h1) | (replace h1 := of_decide_eq_false h1) | (replace h1 := deNT h1) | (replace h1 := deNN h1) | (replace h1 := bnT h1) | (replace h1 := bnF h1) | skip
      refine CW.skip ?_
      refine Fin.next ?_
      refine CW.seq ?_
      refine CW.region ?_
      refine RL.y rfl (y_mov (v := .int _ _) rfl) ?_
      refine RL.y rfl (y_ne rfl rfl) ?_
      refine RL.y rfl (y_mov (v := .bool _) rfl) ?_
      refine RL.split (t := 128) rfl rfl (fun h5 => ?_) (fun h5 => ?_)
      · with_reducible first | (replace h5 := deNF h5) | (replace h5 := of_decide_eq_true h5) | (replace h5 := of_decide_eq_false h5) | (replace h5 := deNT h5) | (replace h5 := deNN h5) | (replace h5 := bnT h5) | (replace h5 := bnF h5) | skip
        refine RL.pass (t := 128) rfl rfl rfl rfl ?_
        refine RL.pass (t := 128) rfl rfl rfl rfl ?_
        refine RL.pass (t := 128) rfl rfl rfl rfl ?_
        refine RL.pass2 (t := 131) rfl rfl rfl rfl ?_
        refine RL.pass2 (t := 131) rfl rfl rfl rfl ?_
        refine RL.pass2 (t := 131) rfl rfl rfl rfl ?_
        refine RL.pass2 (t := 131) rfl rfl rfl rfl ?_
        refine RL.pass2 (t := 131) rfl rfl rfl rfl ?_
        refine RL.pass2 (t := 131) rfl rfl rfl rfl ?_
        refine RL.pass2 (t := 131) rfl rfl rfl rfl ?_
        refine RL.pass2 (t := 131) rfl rfl rfl rfl ?_
        refine RL.pass (t := 128) rfl rfl rfl rfl ?_
        refine RL.pass (t := 128) rfl rfl rfl rfl ?_
        refine RL.pass2 (t := 141) rfl rfl rfl rfl ?_
        refine RL.pass2 (t := 141) rfl rfl rfl rfl ?_
        refine RL.pass2 (t := 141) rfl rfl rfl rfl ?_
        refine RL.pass2 (t := 141) rfl rfl rfl rfl ?_
        refine RL.pass2 (t := 141) rfl rfl rfl rfl ?_
        refine RL.pass2 (t := 141) rfl rfl rfl rfl ?_
        refine RL.pass2 (t := 141) rfl rfl rfl rfl ?_
        refine RL.pass2 (t := 141) rfl rfl rfl rfl ?_
        refine RL.pass2 (t := 141) rfl rfl rfl rfl ?_
        refine RL.pass (t := 128) rfl rfl rfl rfl ?_
        refine RL.y rfl (y_pickT (v := .bool _) rfl rfl) ?_
        refine RL.y rfl (y_asg (v := .bool _) rfl) ?_
        refine RL.nil ?_
        refine Fin.next ?_
        refine CW.ret ?_
        refine Fin.ret1 rfl (by conv => lhs; whnf) ?_
        exact ⟨_, rfl, rfl, hE17⟩
      · with_reducible first | (replace h5 := deNF h5) | (replace h5 := of_decide_eq_true h5) | (replace h5 := of_decide_eq_false h5) | (replace h5 := deNT h5) | (replace h5 := deNN h5) | (replace h5 := bnT h5) | (replace h5 := bnF h5) | skip
        obtain ⟨e1, e2, e3, e4⟩ := ak_all h5
        refine RL.take (t := 128) rfl rfl rfl ?_
        refine RL.y rfl (y_loads ag33 rfl (eqw (hV7)) rfl) ?_
        refine RL.take (t := 128) rfl rfl rfl ?_
        refine RL.call rfl (implIsPlan_any ho5x1.rd) ?_
        rintro r w26 ⟨rfl, hX26⟩
        have hsz26 := hX26.size
        replace ho2x1 := ho2x1.ext hX26
        replace ho2x2 := ho2x2.ext hX26
        replace ho5x1 := ho5x1.ext hX26
        replace ho8x1 := ho8x1.ext hX26
        replace ho11x0 := ho11x0.ext hX26
        replace ho14x1 := ho14x1.ext hX26
        replace ho15x1 := ho15x1.ext hX26
        replace hV4 := hV4.ext hX26
        replace hV7 := hV7.ext hX26
        replace hV10 := hV10.ext hX26
        replace hV13 := hV13.ext hX26
        have hE26 := hE17.trans hX26
        refine RL.take (t := 128) rfl rfl rfl ?_
        refine RL.y rfl (y_mov (v := .bool _) rfl) ?_
        refine RL.force (t := 131) true rfl rfl ((decide_eq_true (by rw [e1, e2, e3]; exact e4))) ?_
        refine RL.take (t := 131) rfl rfl rfl ?_
        refine RL.y rfl (y_fa fa33_1 rfl rfl) ?_
        refine RL.take (t := 131) rfl rfl rfl ?_
        refine RL.y rfl (y_loadv sc26 (eqw (hV7)) rfl rfl) ?_
        refine RL.take (t := 131) rfl rfl rfl ?_
        obtain ⟨cs1q, hcs1q⟩ := ho5x1.rd.rw3
        refine RL.y rfl (y_len sT26 hcs1q.1 hcs1q.2.1 rfl) ?_
        refine RL.take (t := 131) rfl rfl rfl ?_
        refine RL.y rfl (y_fa fa33_1 rfl rfl) ?_
        refine RL.take (t := 131) rfl rfl rfl ?_
        refine RL.y rfl (y_loadv sc26 (eqw (hV4)) rfl rfl) ?_
        refine RL.take (t := 131) rfl rfl rfl ?_
        obtain ⟨cs2q, hcs2q⟩ := ho2x1.rd.rw3
        refine RL.y rfl (y_len sT26 hcs2q.1 hcs2q.2.1 rfl) ?_
        refine RL.take (t := 131) rfl rfl rfl ?_
        refine RL.y rfl (y_add rfl rfl (IntWalk.i64_in _ (by omega))) ?_
        refine RL.take (t := 131) rfl rfl rfl ?_
        refine RL.y rfl (y_eq rfl rfl) ?_
        refine RL.take (t := 128) rfl rfl rfl ?_
        refine RL.y rfl (y_pickT (v := .bool _) rfl rfl) ?_
        refine RL.take (t := 128) rfl rfl rfl ?_
        refine RL.y rfl (y_mov (v := .bool _) rfl) ?_
        refine RL.force (t := 141) true rfl rfl ((decide_eq_true (by rw [e3]; simp))) ?_
        refine RL.take (t := 141) rfl rfl rfl ?_
        refine RL.y rfl (y_fa fa33_1 rfl rfl) ?_
        obtain ⟨csq, hcsq⟩ := ho5x1.rd.rw3
        have hlq : rs2.length < (akV (akC ps2 ds2 rs2 ns2) (rs2 ++ [ns2])).length := by rw [e3]; simp
        refine RL.take (t := 141) rfl rfl rfl ?_
        refine RL.y rfl (y_loadv sc26 (eqw (hV7)) rfl rfl) ?_
        refine RL.take (t := 141) rfl rfl rfl ?_
        refine RL.y rfl (y_fa fa33_1 rfl rfl) ?_
        refine RL.take (t := 141) rfl rfl rfl ?_
        refine RL.y rfl (y_loadv sc26 (eqw (hV4)) rfl rfl) ?_
        refine RL.take (t := 141) rfl rfl rfl ?_
        obtain ⟨cs3q, hcs3q⟩ := ho2x1.rd.rw3
        refine RL.y rfl (y_len sT26 hcs3q.1 hcs3q.2.1 rfl) ?_
        refine RL.take (t := 141) rfl rfl rfl ?_
        refine RL.y rfl (y_ixa sT26 (eqw (hcsq.1)) (k := rs2.length) (hcsq.lt hlq) rfl rfl) ?_
        refine RL.take (t := 141) rfl rfl rfl ?_
        refine RL.y rfl (y_load sc22 (eqw (hcsq.1)) (hcsq.at hlq) rfl) ?_
        refine RL.take (t := 141) rfl rfl rfl ?_
        refine RL.y rfl (y_mov (by conv => lhs; whnf)) ?_
        refine RL.take (t := 141) rfl rfl rfl ?_
        refine RL.call rfl (likeInts_any (hcsq.row hlq) ho2x2.sv) ?_
        rintro r w27 ⟨rfl, hX27⟩
        have hsz27 := hX27.size
        replace ho2x1 := ho2x1.ext hX27
        replace ho2x2 := ho2x2.ext hX27
        replace ho5x1 := ho5x1.ext hX27
        replace ho8x1 := ho8x1.ext hX27
        replace ho11x0 := ho11x0.ext hX27
        replace ho14x1 := ho14x1.ext hX27
        replace ho15x1 := ho15x1.ext hX27
        replace hV4 := hV4.ext hX27
        replace hV7 := hV7.ext hX27
        replace hV10 := hV10.ext hX27
        replace hV13 := hV13.ext hX27
        have hE27 := hE26.trans hX27
        refine RL.take (t := 128) rfl rfl rfl ?_
        refine RL.y rfl (y_pickT (v := .bool _) rfl rfl) ?_
        refine RL.y rfl (y_pickF (v := .bool _) rfl rfl) ?_
        refine RL.y rfl (y_asg (v := .bool _) rfl) ?_
        refine RL.nil ?_
        refine Fin.next ?_
        refine CW.ret ?_
        refine Fin.ret1 rfl (by conv => lhs; whnf) ?_
        exact ⟨_, rfl, congrArg Value.bool (decide_eq_true (by simp [e3])), hE27⟩
namespace fnPlans
open Go.ChangeShapes Go.WideShapes Go.ChangeAt Go.RowKit
set_option linter.unusedVariables false
theorem own : ownKnob Try.prog.godebug = none := by kernel_rfl
theorem laidOut : laidOutB Try.prog = true := by kernel_rfl
set_option maxRecDepth 100000 in
theorem lifted (os : Os) (started : os.Started) (H : Type) (enc : TypeId × Value → H) :
    ReturnsInHanded {} Try.checked os 13 .any (Rows.fnPlansSpec.pre6 enc Try.prog Try.f13 Rows.fnPlansRow.domain false) (Rows.fnPlansSpec.post enc Try.prog Try.f13 false true false false) := by
  refine returnsInHanded_of_change (C := Try.checked) own started (by kernel_rfl) Try.func13
    (ChangeSpec.witness6 (enc := enc) (C := Try.checked) false ⟨#[], #[.slice none 0 0], []⟩ 8 (by kernel_rfl) (by kernel_rfl) (by kernel_rfl) (by kernel_rfl)) ?_
  intro W base args ds gs before hval0 hW hcnd _
  have hval : ∀ (j : Nat) t v, Try.f13.params[j]? = some t → args[j]? = some v → Value.okWide Try.prog W .any base t v := hval0
  have hW' := hW
  obtain ⟨p, q, hA0, hV, rfl, hfz, hnd⟩ := hW
  have hA : DataW.TrodAll enc Try.prog W 0 (fun _ => true) true Try.f13.params.toList args.toList ds p := hA0
  rw [Try.params13] at hA hval
  have hkeep := hA
  obtain ⟨v0, vs0, d0, ds0, p0, q0, hargs, rfl, rfl, h0, r0⟩ := trodAll_cons hA
  obtain ⟨rfl, rfl, rfl⟩ := trodAll_nil r0
  obtain rfl : args = #[v0] := by cases args; simp_all
  obtain ⟨rfl, rfl⟩ := trodVars_none hV
  obtain ⟨l0, hs0⟩ := open_SU8 Try.underlying55 Try.underlying5 (by kernel_rfl) (hval 0 55 v0 rfl rfl) h0
  refine (lawPlans W v0 l0 hs0).calls.mono fun e W' ⟨r, he, hr, hg⟩ => ?_
  subst hr
  subst he
  exact ⟨_, rfl, _, _, _, [] ++ [], _, [], hW', trodAll_cons_mk (shut_bool Try.underlying4 _) trodAll_mk0, trodAll_ext laidOut (by kernel_rfl) hkeep hg (fun x hx => hW'.lt x (List.mem_append_left _ hx)), rfl, hg.frame _, fun h => by cases h⟩
theorem over : Rows.fnPlansRow.holds Try.pinned (OpenSpec.ofChange Rows.fnPlansSpec) :=
  OpenClaim.holds_of_wide 13 Try.f13 rfl rfl rfl rfl rfl rfl rfl ⟨rfl, rfl, rfl, rfl, rfl⟩ rfl rfl rfl rfl rfl (by kernel_rfl) Try.func13 (by kernel_rfl)
    (of_decide_eq_true (by kernel_rfl)) (by unfold Func.isWrapper; first | (rw [if_pos (by decide +kernel)]; kernel_rfl) | (rw [if_neg (by decide +kernel)]; exact ⟨rfl, rfl⟩))
    (fun os started H enc _ => lifted os started H enc)
theorem proved : Rows.FnPlansSaid := over
end fnPlans
#print axioms fnPlans.proved
end Go.Proofs.Ytkkeipogkjlneaa
