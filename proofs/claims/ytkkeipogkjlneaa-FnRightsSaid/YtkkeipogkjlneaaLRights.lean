/-
  Rights, shortened and least, let a key into the same doors; the program's answers are the reference's. No condition.
-/
import Derived.Test.YtkkeipogkjlneaaFDrawP
import Derived.Test.YtkkeipogkjlneaaFLike
import Derived.Test.YtkkeipogkjlneaaPln3
import Derived.Test.YtkkeipogkjlneaaLift6
import Derived.Test.YtkkeipogkjlneaaRows
namespace Go.Proofs.Ytkkeipogkjlneaa
open B Go.RowKit

theorem lawRights (w : World) (v0 : Value) (l0 : List UInt8) (hs0 : SV w v0 (byts l0)) :
    Does Try.prog 12 #[v0] w (fun r w' => r = .bool true ∧ Ext w w') := by
  refine enter Try.func12 rfl 170 Try.ntmps12 rfl (by kernel_rfl) ?_
  refine CW.seq ?_
  refine CW.region ?_
  refine RL.y rfl (y_asg rfl) ?_
  refine RL.nil ?_
  refine Fin.next ?_
  refine CW.seq ?_
  refine CW.seq ?_
  refine CW.region ?_
  refine RL.y rfl (y_mov (by conv => lhs; whnf)) ?_
  refine RL.call rfl (big_any (hs0.ext (Ext.refl w))) ?_
  rintro r w1 ⟨rfl, rfl⟩
  refine RL.nil ?_
  refine Fin.next ?_
  refine CW.cond rfl rfl (fun hbig => ?_) (fun hbig => ?_)
  · with_reducible first | (replace hbig := deNF hbig) | (replace hbig := of_decide_eq_true hbig) | (replace hbig := of_decide_eq_false hbig) | (replace hbig := deNT hbig) | (replace hbig := deNN hbig) | (replace hbig := bnT hbig) | (replace hbig := bnF hbig) | skip
    refine CW.seq ?_
    refine CW.region ?_
    refine RL.y rfl (y_asg rfl) ?_
    refine RL.nil ?_
    refine Fin.next ?_
    refine CW.ret ?_
    refine Fin.thenRet ?_
    refine Fin.ret1 rfl (by conv => lhs; whnf) ?_
    exact ⟨_, rfl, rfl, (Ext.refl w)⟩
  · with_reducible first | (replace hbig := deNF hbig) | (replace hbig := of_decide_eq_true hbig) | (replace hbig := of_decide_eq_false hbig) | (replace hbig := deNT hbig) | (replace hbig := deNN hbig) | (replace hbig := bnT hbig) | (replace hbig := bnF hbig) | skip
    refine CW.skip ?_
    refine Fin.next ?_
    refine CW.seq ?_
    refine CW.region ?_
    refine RL.y rfl (y_mov (by conv => lhs; whnf)) ?_
    refine RL.call rfl (DrawShortRights_any (hs0.ext (Ext.refl w))) ?_
    rintro r w2 ⟨v12, ps2, ds2, rs2, x2, rfl, ho2x1, _, hX2⟩
    have hsz2 := hX2.size
    have hE2 := hX2
    replace ho2x1 := RuP.of ho2x1
    obtain ⟨vp2x, vd2x, vr2x, rfl, _⟩ := id ho2x1
    refine RL.y rfl (y_mov (by conv => lhs; whnf)) ?_
    refine RL.y rfl (y_ext0 rfl) ?_
    refine RL.y rfl (y_ext1 rfl) ?_
    refine RL.alloc rfl ze33 (fun w3 hV3 hX3 => ?_)
    have hsz3 := hX3.size
    replace ho2x1 := ho2x1.ext hX3
    have hE3 := hE2.trans hX3
    have hlt3 := hV3.lt
    refine RL.stores ag33 (hV3) rfl rfl rfl rfl (ho2x1.one) (fun w4 hV4 hg4 => ?_)
    have hM4 := grown_mod (B := w2.heap.size) (U := w2.heap.size + 1) hg4 (fun k e => by simp only [Option.some.injEq] at e; omega)
    have hsz4 := hM4.size
    replace ho2x1 := ho2x1.mod hM4 (by omega)
    have hE4 := Ext.then_mod hE3 hM4 (by omega)
    refine RL.y rfl (y_asg (v := .int _ _) rfl) ?_
    refine RL.nil ?_
    refine Fin.next ?_
    refine CW.seq ?_
    refine CW.region ?_
    refine RL.y rfl (y_loads ag33 rfl (eqw (hV4)) rfl) ?_
    refine RL.y rfl (y_mov (v := .int _ _) rfl) ?_
    refine RL.call rfl (implShortRights_any ho2x1.rd) ?_
    rintro r w5 ⟨v15, rfl, ho5x1, hX5⟩
    have hsz5 := hX5.size
    replace ho2x1 := ho2x1.ext hX5
    replace hV4 := hV4.ext hX5
    have hE5 := hE4.trans hX5
    replace ho5x1 := OU.of ho5x1
    refine RL.y rfl (y_mov (by conv => lhs; whnf)) ?_
    refine RL.y rfl (y_ext0 rfl) ?_
    refine RL.y rfl (y_ext1 rfl) ?_
    refine RL.y rfl (y_asg (by conv => lhs; whnf)) ?_
    refine RL.y rfl (y_asg (v := .int _ _) rfl) ?_
    refine RL.nil ?_
    refine Fin.next ?_
    refine CW.seq ?_
    refine CW.region ?_
    refine RL.y rfl (y_loads ag33 rfl (eqw (hV4)) rfl) ?_
    refine RL.y rfl (y_mov (v := .int _ _) rfl) ?_
    refine RL.call rfl (specShortRights_any ho2x1.rd) ?_
    rintro r w6 ⟨v16, rfl, ho6x1, hX6⟩
    have hsz6 := hX6.size
    replace ho2x1 := ho2x1.ext hX6
    replace ho5x1 := ho5x1.ext hX6
    replace hV4 := hV4.ext hX6
    have hE6 := hE5.trans hX6
    replace ho6x1 := OU.of ho6x1
    refine RL.y rfl (y_mov (by conv => lhs; whnf)) ?_
    refine RL.y rfl (y_ext0 rfl) ?_
    refine RL.y rfl (y_ext1 rfl) ?_
    refine RL.y rfl (y_asg (by conv => lhs; whnf)) ?_
    refine RL.y rfl (y_asg (v := .int _ _) rfl) ?_
    refine RL.nil ?_
    refine Fin.next ?_
    refine CW.seq ?_
    refine CW.region ?_
    refine RL.y rfl (y_mov (by conv => lhs; whnf)) ?_
    refine RL.call rfl (DrawLeastRights_any (hs0.ext hE6)) ?_
    rintro r w7 ⟨v17, ps7, ds7, rs7, x7, rfl, ho7x1, _, hX7⟩
    have hsz7 := hX7.size
    replace ho2x1 := ho2x1.ext hX7
    replace ho5x1 := ho5x1.ext hX7
    replace ho6x1 := ho6x1.ext hX7
    replace hV4 := hV4.ext hX7
    have hE7 := hE6.trans hX7
    replace ho7x1 := RuP.of ho7x1
    obtain ⟨vp7x, vd7x, vr7x, rfl, _⟩ := id ho7x1
    refine RL.y rfl (y_mov (by conv => lhs; whnf)) ?_
    refine RL.y rfl (y_ext0 rfl) ?_
    refine RL.y rfl (y_ext1 rfl) ?_
    refine RL.alloc rfl ze33 (fun w8 hV8 hX8 => ?_)
    have hsz8 := hX8.size
    replace ho2x1 := ho2x1.ext hX8
    replace ho5x1 := ho5x1.ext hX8
    replace ho6x1 := ho6x1.ext hX8
    replace ho7x1 := ho7x1.ext hX8
    replace hV4 := hV4.ext hX8
    have hE8 := hE7.trans hX8
    have hlt8 := hV8.lt
    refine RL.stores ag33 (hV8) rfl rfl rfl rfl (ho7x1.one) (fun w9 hV9 hg9 => ?_)
    have hM9 := grown_mod (B := w7.heap.size) (U := w7.heap.size + 1) hg9 (fun k e => by simp only [Option.some.injEq] at e; omega)
    have hsz9 := hM9.size
    replace ho2x1 := ho2x1.mod hM9 (by omega)
    replace ho5x1 := ho5x1.mod hM9 (by omega)
    replace ho6x1 := ho6x1.mod hM9 (by omega)
    replace ho7x1 := ho7x1.mod hM9 (by omega)
    replace hV4 := hV4.mod hM9 (by omega)
    have hE9 := Ext.then_mod hE8 hM9 (by omega)
    refine RL.y rfl (y_asg (v := .int _ _) rfl) ?_
    refine RL.nil ?_
    refine Fin.next ?_
    refine CW.seq ?_
    refine CW.region ?_
    refine RL.y rfl (y_loads ag33 rfl (eqw (hV9)) rfl) ?_
    refine RL.y rfl (y_mov (v := .int _ _) rfl) ?_
    refine RL.call rfl (implLeastRights_any ho7x1.rd) ?_
    rintro r w10 ⟨v110, rfl, ho10x1, hX10⟩
    have hsz10 := hX10.size
    replace ho2x1 := ho2x1.ext hX10
    replace ho5x1 := ho5x1.ext hX10
    replace ho6x1 := ho6x1.ext hX10
    replace ho7x1 := ho7x1.ext hX10
    replace hV4 := hV4.ext hX10
    replace hV9 := hV9.ext hX10
    have hE10 := hE9.trans hX10
    replace ho10x1 := OU.of ho10x1
    refine RL.y rfl (y_mov (by conv => lhs; whnf)) ?_
    refine RL.y rfl (y_ext0 rfl) ?_
    refine RL.y rfl (y_ext1 rfl) ?_
    refine RL.y rfl (y_asg (by conv => lhs; whnf)) ?_
    refine RL.y rfl (y_asg (v := .int _ _) rfl) ?_
    refine RL.nil ?_
    refine Fin.next ?_
    refine CW.seq ?_
    refine CW.region ?_
    refine RL.y rfl (y_loads ag33 rfl (eqw (hV9)) rfl) ?_
    refine RL.y rfl (y_mov (v := .int _ _) rfl) ?_
    refine RL.call rfl (specLeastRights_any ho7x1.rd) ?_
    rintro r w11 ⟨v111, rfl, ho11x1, hX11⟩
    have hsz11 := hX11.size
    replace ho2x1 := ho2x1.ext hX11
    replace ho5x1 := ho5x1.ext hX11
    replace ho6x1 := ho6x1.ext hX11
    replace ho7x1 := ho7x1.ext hX11
    replace ho10x1 := ho10x1.ext hX11
    replace hV4 := hV4.ext hX11
    replace hV9 := hV9.ext hX11
    have hE11 := hE10.trans hX11
    replace ho11x1 := OU.of ho11x1
    refine RL.y rfl (y_mov (by conv => lhs; whnf)) ?_
    refine RL.y rfl (y_ext0 rfl) ?_
    refine RL.y rfl (y_ext1 rfl) ?_
    refine RL.y rfl (y_asg (by conv => lhs; whnf)) ?_
    refine RL.y rfl (y_asg (v := .int _ _) rfl) ?_
    refine RL.nil ?_
    refine Fin.next ?_
    refine CW.seq ?_
    refine CW.seq ?_
    refine CW.region ?_
    refine RL.y rfl (y_mov (v := .int _ _) rfl) ?_
    refine RL.y rfl (y_mov (v := .int _ _) rfl) ?_
    refine RL.y rfl (y_ne rfl rfl) ?_
    refine RL.y rfl (y_mov (v := .bool _) rfl) ?_
    refine RL.force (t := 66) false rfl rfl (by first | (simp; done) | exact decide_eq_false (by omega) | (simp [*]; done) | assumption) ?_
    refine RL.take (t := 66) rfl rfl rfl ?_
    refine RL.y rfl (y_mov (by conv => lhs; whnf)) ?_
    refine RL.take (t := 66) rfl rfl rfl ?_
    refine RL.y rfl (y_mov (by conv => lhs; whnf)) ?_
    refine RL.take (t := 66) rfl rfl rfl ?_
    refine RL.call rfl (likeInts_any ho5x1.sv ho6x1.sv) ?_
    rintro r w12 ⟨rfl, hX12⟩
    have hsz12 := hX12.size
    replace ho2x1 := ho2x1.ext hX12
    replace ho5x1 := ho5x1.ext hX12
    replace ho6x1 := ho6x1.ext hX12
    replace ho7x1 := ho7x1.ext hX12
    replace ho10x1 := ho10x1.ext hX12
    replace ho11x1 := ho11x1.ext hX12
    replace hV4 := hV4.ext hX12
    replace hV9 := hV9.ext hX12
    have hE12 := hE11.trans hX12
    refine RL.take (t := 66) rfl rfl rfl ?_
    refine RL.y rfl (y_not rfl) ?_
    refine RL.y rfl (y_pickF (v := .bool _) rfl rfl) ?_
    refine RL.y rfl (y_mov (v := .bool _) rfl) ?_
    refine RL.force (t := 72) false rfl rfl (by first | (simp; done) | exact decide_eq_false (by omega) | (simp [*]; done) | assumption) ?_
    refine RL.take (t := 72) rfl rfl rfl ?_
    refine RL.y rfl (y_mov (v := .int _ _) rfl) ?_
    refine RL.take (t := 72) rfl rfl rfl ?_
    refine RL.y rfl (y_mov (v := .int _ _) rfl) ?_
    refine RL.take (t := 72) rfl rfl rfl ?_
    refine RL.y rfl (y_ne rfl rfl) ?_
    refine RL.y rfl (y_pickF (v := .bool _) rfl rfl) ?_
    refine RL.y rfl (y_mov (v := .bool _) rfl) ?_
    refine RL.force (t := 77) false rfl rfl (by first | (simp; done) | exact decide_eq_false (by omega) | (simp [*]; done) | assumption) ?_
    refine RL.take (t := 77) rfl rfl rfl ?_
    refine RL.y rfl (y_mov (by conv => lhs; whnf)) ?_
    refine RL.take (t := 77) rfl rfl rfl ?_
    refine RL.y rfl (y_mov (by conv => lhs; whnf)) ?_
    refine RL.take (t := 77) rfl rfl rfl ?_
    refine RL.call rfl (likeInts_any ho10x1.sv ho11x1.sv) ?_
    rintro r w13 ⟨rfl, hX13⟩
    have hsz13 := hX13.size
    replace ho2x1 := ho2x1.ext hX13
    replace ho5x1 := ho5x1.ext hX13
    replace ho6x1 := ho6x1.ext hX13
    replace ho7x1 := ho7x1.ext hX13
    replace ho10x1 := ho10x1.ext hX13
    replace ho11x1 := ho11x1.ext hX13
    replace hV4 := hV4.ext hX13
    replace hV9 := hV9.ext hX13
    have hE13 := hE12.trans hX13
    refine RL.take (t := 77) rfl rfl rfl ?_
    refine RL.y rfl (y_not rfl) ?_
    refine RL.y rfl (y_pickF (v := .bool _) rfl rfl) ?_
    refine RL.nil ?_
    refine Fin.next ?_
    refine CW.condF rfl (by first | (simp; done) | exact decide_eq_false (by omega) | (simp [*]; done) | assumption) ?_
    refine CW.skip ?_
    refine Fin.next ?_
    refine CW.seq ?_
    refine CW.seq ?_
    refine CW.region ?_
    refine RL.y rfl (y_mov (v := .int _ _) rfl) ?_
    refine RL.y rfl (y_eq rfl rfl) ?_
    refine RL.nil ?_
    refine Fin.next ?_
    refine CW.cond rfl rfl (fun h1 => ?_) (fun h1 => ?_)
    · with_reducible first | (replace h1 := deNF h1) | (replace h1 := of_decide_eq_true h1) | (replace h1 := of_decide_eq_false h1) | (replace h1 := deNT h1) | (replace h1 := deNN h1) | (replace h1 := bnT h1) | (replace h1 := bnF h1) | skip
      refine CW.seq ?_
      refine CW.region ?_
      refine RL.y rfl (y_loads ag33 rfl (eqw (hV4)) rfl) ?_
      refine RL.y rfl (y_mov (by conv => lhs; whnf)) ?_
      refine RL.call rfl (implAddKey_any ho2x1.rd ho5x1.sv) ?_
      rintro r w14 ⟨v114, rfl, ho14x1, hX14⟩
      have hsz14 := hX14.size
      replace ho2x1 := ho2x1.ext hX14
      replace ho5x1 := ho5x1.ext hX14
      replace ho6x1 := ho6x1.ext hX14
      replace ho7x1 := ho7x1.ext hX14
      replace ho10x1 := ho10x1.ext hX14
      replace ho11x1 := ho11x1.ext hX14
      replace hV4 := hV4.ext hX14
      replace hV9 := hV9.ext hX14
      have hE14 := hE13.trans hX14
      replace ho14x1 := OwP.of ho14x1
      obtain ⟨vp14x, vd14x, vr14x, _, rfl, _⟩ := id ho14x1
      refine RL.y rfl (y_mov (by conv => lhs; whnf)) ?_
      refine RL.y rfl (y_ext0 rfl) ?_
      refine RL.y rfl (y_ext1 rfl) ?_
      refine RL.alloc rfl ze33 (fun w15 hV15 hX15 => ?_)
      have hsz15 := hX15.size
      replace ho2x1 := ho2x1.ext hX15
      replace ho5x1 := ho5x1.ext hX15
      replace ho6x1 := ho6x1.ext hX15
      replace ho7x1 := ho7x1.ext hX15
      replace ho10x1 := ho10x1.ext hX15
      replace ho11x1 := ho11x1.ext hX15
      replace ho14x1 := ho14x1.ext hX15
      replace hV4 := hV4.ext hX15
      replace hV9 := hV9.ext hX15
      have hE15 := hE14.trans hX15
      have hlt15 := hV15.lt
      refine RL.stores ag33 (hV15) rfl rfl rfl rfl (ho14x1.one) (fun w16 hV16 hg16 => ?_)
      have hM16 := grown_mod (B := w14.heap.size) (U := w14.heap.size + 1) hg16 (fun k e => by simp only [Option.some.injEq] at e; omega)
      have hsz16 := hM16.size
      replace ho2x1 := ho2x1.mod hM16 (by omega)
      replace ho5x1 := ho5x1.mod hM16 (by omega)
      replace ho6x1 := ho6x1.mod hM16 (by omega)
      replace ho7x1 := ho7x1.mod hM16 (by omega)
      replace ho10x1 := ho10x1.mod hM16 (by omega)
      replace ho11x1 := ho11x1.mod hM16 (by omega)
      replace ho14x1 := ho14x1.mod hM16 (by omega)
      replace hV4 := hV4.mod hM16 (by omega)
      replace hV9 := hV9.mod hM16 (by omega)
      have hE16 := Ext.then_mod hE15 hM16 (by omega)
      refine RL.y rfl (y_asg (v := .int _ _) rfl) ?_
      refine RL.nil ?_
      refine Fin.next ?_
      refine CW.seq ?_
      refine CW.region ?_
      refine RL.y rfl (y_mov (v := .int _ _) rfl) ?_
      refine RL.y rfl (y_eq rfl rfl) ?_
      refine RL.nil ?_
      refine Fin.next ?_
      refine CW.cond rfl rfl (fun h2 => ?_) (fun h2 => ?_)
      · with_reducible first | (replace h2 := deNF h2) | (replace h2 := of_decide_eq_true h2) | (replace h2 := of_decide_eq_false h2) | (replace h2 := deNT h2) | (replace h2 := deNN h2) | (replace h2 := bnT h2) | (replace h2 := bnF h2) | skip
        obtain ⟨hp, hd⟩ := short_ak h1 h2
        refine CW.seq ?_
        refine CW.region ?_
        refine RL.y rfl (y_loads ag33 rfl (eqw (hV16)) rfl) ?_
        refine RL.y rfl (y_fa fa33_1 rfl rfl) ?_
        refine RL.y rfl (y_loadv sc26 (eqw (hV4)) rfl rfl) ?_
        obtain ⟨cs1q, hcs1q⟩ := ho2x1.rd.rw3
        refine RL.y rfl (y_len sT26 hcs1q.1 hcs1q.2.1 rfl) ?_
        refine RL.call rfl (implDoorsFor_any ho14x1.rd) ?_
        rintro r w17 ⟨v117, rfl, ho17x1, hX17⟩
        have hsz17 := hX17.size
        replace ho2x1 := ho2x1.ext hX17
        replace ho5x1 := ho5x1.ext hX17
        replace ho6x1 := ho6x1.ext hX17
        replace ho7x1 := ho7x1.ext hX17
        replace ho10x1 := ho10x1.ext hX17
        replace ho11x1 := ho11x1.ext hX17
        replace ho14x1 := ho14x1.ext hX17
        replace hV4 := hV4.ext hX17
        replace hV9 := hV9.ext hX17
        replace hV16 := hV16.ext hX17
        have hE17 := hE16.trans hX17
        replace ho17x1 := OU.of ho17x1
        refine RL.y rfl (y_mov (by conv => lhs; whnf)) ?_
        refine RL.y rfl (y_ext0 rfl) ?_
        refine RL.y rfl (y_ext1 rfl) ?_
        refine RL.y rfl (y_asg (by conv => lhs; whnf)) ?_
        refine RL.y rfl (y_asg (v := .int _ _) rfl) ?_
        refine RL.nil ?_
        refine Fin.next ?_
        refine CW.seq ?_
        refine CW.region ?_
        refine RL.y rfl (y_loads ag33 rfl (eqw (hV4)) rfl) ?_
        refine RL.y rfl (y_mov (v := .int _ _) rfl) ?_
        refine RL.call rfl (implDoorsFor_any ho2x1.rd) ?_
        rintro r w18 ⟨v118, rfl, ho18x1, hX18⟩
        have hsz18 := hX18.size
        replace ho2x1 := ho2x1.ext hX18
        replace ho5x1 := ho5x1.ext hX18
        replace ho6x1 := ho6x1.ext hX18
        replace ho7x1 := ho7x1.ext hX18
        replace ho10x1 := ho10x1.ext hX18
        replace ho11x1 := ho11x1.ext hX18
        replace ho14x1 := ho14x1.ext hX18
        replace ho17x1 := ho17x1.ext hX18
        replace hV4 := hV4.ext hX18
        replace hV9 := hV9.ext hX18
        replace hV16 := hV16.ext hX18
        have hE18 := hE17.trans hX18
        replace ho18x1 := OU.of ho18x1
        refine RL.y rfl (y_mov (by conv => lhs; whnf)) ?_
        refine RL.y rfl (y_ext0 rfl) ?_
        refine RL.y rfl (y_ext1 rfl) ?_
        refine RL.y rfl (y_asg (by conv => lhs; whnf)) ?_
        refine RL.y rfl (y_asg (v := .int _ _) rfl) ?_
        refine RL.nil ?_
        refine Fin.next ?_
        refine CW.seq ?_
        refine CW.region ?_
        refine RL.y rfl (y_mov (v := .int _ _) rfl) ?_
        refine RL.y rfl (y_ne rfl rfl) ?_
        refine RL.y rfl (y_mov (v := .bool _) rfl) ?_
        refine RL.force (t := 109) false rfl rfl (by first | (simp; done) | exact decide_eq_false (by omega) | (simp [*]; done) | assumption) ?_
        refine RL.take (t := 109) rfl rfl rfl ?_
        refine RL.y rfl (y_mov (v := .int _ _) rfl) ?_
        refine RL.take (t := 109) rfl rfl rfl ?_
        refine RL.y rfl (y_ne rfl rfl) ?_
        refine RL.y rfl (y_pickF (v := .bool _) rfl rfl) ?_
        refine RL.y rfl (y_mov (v := .bool _) rfl) ?_
        refine RL.force (t := 113) false rfl rfl (by first | (simp; done) | exact decide_eq_false (by omega) | (simp [*]; done) | assumption) ?_
        refine RL.take (t := 113) rfl rfl rfl ?_
        refine RL.y rfl (y_mov (by conv => lhs; whnf)) ?_
        refine RL.take (t := 113) rfl rfl rfl ?_
        refine RL.y rfl (y_mov (by conv => lhs; whnf)) ?_
        refine RL.take (t := 113) rfl rfl rfl ?_
        refine RL.call rfl (likeInts_any ho17x1.sv ho18x1.sv) ?_
        rintro r w19 ⟨rfl, hX19⟩
        have hsz19 := hX19.size
        replace ho2x1 := ho2x1.ext hX19
        replace ho5x1 := ho5x1.ext hX19
        replace ho6x1 := ho6x1.ext hX19
        replace ho7x1 := ho7x1.ext hX19
        replace ho10x1 := ho10x1.ext hX19
        replace ho11x1 := ho11x1.ext hX19
        replace ho14x1 := ho14x1.ext hX19
        replace ho17x1 := ho17x1.ext hX19
        replace ho18x1 := ho18x1.ext hX19
        replace hV4 := hV4.ext hX19
        replace hV9 := hV9.ext hX19
        replace hV16 := hV16.ext hX19
        have hE19 := hE18.trans hX19
        refine RL.take (t := 113) rfl rfl rfl ?_
        refine RL.y rfl (y_not rfl) ?_
        refine RL.y rfl (y_pickF (v := .bool _) rfl rfl) ?_
        refine RL.nil ?_
        refine Fin.next ?_
        refine CW.condF rfl ((by simp [hd])) ?_
        refine CW.skip ?_
        refine Fin.next ?_
        refine CW.seq ?_
        refine CW.seq ?_
        refine CW.region ?_
        refine RL.y rfl (y_mov (v := .int _ _) rfl) ?_
        refine RL.y rfl (y_ne rfl rfl) ?_
        refine RL.nil ?_
        refine Fin.next ?_
        refine CW.cond rfl rfl (fun h3 => ?_) (fun h3 => ?_)
        · with_reducible first | (replace h3 := deNF h3) | (replace h3 := of_decide_eq_true h3) | (replace h3 := of_decide_eq_false h3) | (replace h3 := deNT h3) | (replace h3 := deNN h3) | (replace h3 := bnT h3) | (replace h3 := bnF h3) | skip
          refine CW.seq ?_
          refine CW.region ?_
          refine RL.y rfl (y_asg rfl) ?_
          refine RL.nil ?_
          refine Fin.next ?_
          refine CW.ret ?_
          refine Fin.thenRet ?_
          refine Fin.ret1 rfl (by conv => lhs; whnf) ?_
          exact ⟨_, rfl, rfl, hE19⟩
        · with_reducible first | (replace h3 := deNF h3) | (replace h3 := of_decide_eq_true h3) | (replace h3 := of_decide_eq_false h3) | (replace h3 := deNT h3) | (replace h3 := deNN h3) | (replace h3 := bnT h3) | (replace h3 := bnF h3) | skip
          have hl1 := (least_facts h3).1
          refine CW.skip ?_
          refine Fin.next ?_
          refine CW.seq ?_
          refine CW.region ?_
          refine RL.y rfl (y_loads ag33 rfl (eqw (hV9)) rfl) ?_
          refine RL.y rfl (y_mov (v := .int _ _) rfl) ?_
          refine RL.call rfl (implDoorsFor_any ho7x1.rd) ?_
          rintro r w20 ⟨v120, rfl, ho20x1, hX20⟩
          have hsz20 := hX20.size
          replace ho2x1 := ho2x1.ext hX20
          replace ho5x1 := ho5x1.ext hX20
          replace ho6x1 := ho6x1.ext hX20
          replace ho7x1 := ho7x1.ext hX20
          replace ho10x1 := ho10x1.ext hX20
          replace ho11x1 := ho11x1.ext hX20
          replace ho14x1 := ho14x1.ext hX20
          replace ho17x1 := ho17x1.ext hX20
          replace ho18x1 := ho18x1.ext hX20
          replace hV4 := hV4.ext hX20
          replace hV9 := hV9.ext hX20
          replace hV16 := hV16.ext hX20
          have hE20 := hE19.trans hX20
          replace ho20x1 := OU.of ho20x1
          refine RL.y rfl (y_mov (by conv => lhs; whnf)) ?_
          refine RL.y rfl (y_ext0 rfl) ?_
          refine RL.y rfl (y_ext1 rfl) ?_
          refine RL.y rfl (y_asg (by conv => lhs; whnf)) ?_
          refine RL.y rfl (y_asg (v := .int _ _) rfl) ?_
          refine RL.nil ?_
          refine Fin.next ?_
          refine CW.seq ?_
          refine CW.seq ?_
          refine CW.region ?_
          refine RL.y rfl (y_mov (v := .int _ _) rfl) ?_
          refine RL.y rfl (y_ne rfl rfl) ?_
          refine RL.y rfl (y_mov (v := .bool _) rfl) ?_
          refine RL.force (t := 131) false rfl rfl (by first | (simp; done) | exact decide_eq_false (by omega) | (simp [*]; done) | assumption) ?_
          refine RL.take (t := 131) rfl rfl rfl ?_
          refine RL.y rfl (y_mov (by conv => lhs; whnf)) ?_
          refine RL.take (t := 131) rfl rfl rfl ?_
          refine RL.y rfl (y_len sT22 ho10x1.sv (ints_len _) rfl) ?_
          refine RL.take (t := 131) rfl rfl rfl ?_
          refine RL.y rfl (y_eq rfl rfl) ?_
          refine RL.take (t := 131) rfl rfl rfl ?_
          refine RL.y rfl (y_mov (by conv => lhs; whnf)) ?_
          refine RL.take (t := 131) rfl rfl rfl ?_
          refine RL.y rfl (y_len sT22 ho20x1.sv (ints_len _) rfl) ?_
          refine RL.take (t := 131) rfl rfl rfl ?_
          refine RL.y rfl (y_eq rfl rfl) ?_
          refine RL.take (t := 131) rfl rfl rfl ?_
          refine RL.y rfl (y_bne Try.underlying4 rfl rfl) ?_
          refine RL.y rfl (y_pickF (v := .bool _) rfl rfl) ?_
          refine RL.nil ?_
          refine Fin.next ?_
          refine CW.condF rfl ((dec_bne (by omega))) ?_
          refine CW.skip ?_
          refine Fin.next ?_
          refine CW.seq ?_
          refine CW.region ?_
          refine RL.y rfl (y_loads ag33 rfl (eqw (hV9)) rfl) ?_
          refine RL.y rfl (y_mov (by conv => lhs; whnf)) ?_
          refine RL.call rfl (implAddKey_any ho7x1.rd ho10x1.sv) ?_
          rintro r w21 ⟨v121, rfl, ho21x1, hX21⟩
          have hsz21 := hX21.size
          replace ho2x1 := ho2x1.ext hX21
          replace ho5x1 := ho5x1.ext hX21
          replace ho6x1 := ho6x1.ext hX21
          replace ho7x1 := ho7x1.ext hX21
          replace ho10x1 := ho10x1.ext hX21
          replace ho11x1 := ho11x1.ext hX21
          replace ho14x1 := ho14x1.ext hX21
          replace ho17x1 := ho17x1.ext hX21
          replace ho18x1 := ho18x1.ext hX21
          replace ho20x1 := ho20x1.ext hX21
          replace hV4 := hV4.ext hX21
          replace hV9 := hV9.ext hX21
          replace hV16 := hV16.ext hX21
          have hE21 := hE20.trans hX21
          replace ho21x1 := OwP.of ho21x1
          obtain ⟨vp21x, vd21x, vr21x, _, rfl, _⟩ := id ho21x1
          refine RL.y rfl (y_mov (by conv => lhs; whnf)) ?_
          refine RL.y rfl (y_ext0 rfl) ?_
          refine RL.y rfl (y_ext1 rfl) ?_
          refine RL.alloc rfl ze33 (fun w22 hV22 hX22 => ?_)
          have hsz22 := hX22.size
          replace ho2x1 := ho2x1.ext hX22
          replace ho5x1 := ho5x1.ext hX22
          replace ho6x1 := ho6x1.ext hX22
          replace ho7x1 := ho7x1.ext hX22
          replace ho10x1 := ho10x1.ext hX22
          replace ho11x1 := ho11x1.ext hX22
          replace ho14x1 := ho14x1.ext hX22
          replace ho17x1 := ho17x1.ext hX22
          replace ho18x1 := ho18x1.ext hX22
          replace ho20x1 := ho20x1.ext hX22
          replace ho21x1 := ho21x1.ext hX22
          replace hV4 := hV4.ext hX22
          replace hV9 := hV9.ext hX22
          replace hV16 := hV16.ext hX22
          have hE22 := hE21.trans hX22
          have hlt22 := hV22.lt
          refine RL.stores ag33 (hV22) rfl rfl rfl rfl (ho21x1.one) (fun w23 hV23 hg23 => ?_)
          have hM23 := grown_mod (B := w21.heap.size) (U := w21.heap.size + 1) hg23 (fun k e => by simp only [Option.some.injEq] at e; omega)
          have hsz23 := hM23.size
          replace ho2x1 := ho2x1.mod hM23 (by omega)
          replace ho5x1 := ho5x1.mod hM23 (by omega)
          replace ho6x1 := ho6x1.mod hM23 (by omega)
          replace ho7x1 := ho7x1.mod hM23 (by omega)
          replace ho10x1 := ho10x1.mod hM23 (by omega)
          replace ho11x1 := ho11x1.mod hM23 (by omega)
          replace ho14x1 := ho14x1.mod hM23 (by omega)
          replace ho17x1 := ho17x1.mod hM23 (by omega)
          replace ho18x1 := ho18x1.mod hM23 (by omega)
          replace ho20x1 := ho20x1.mod hM23 (by omega)
          replace ho21x1 := ho21x1.mod hM23 (by omega)
          replace hV4 := hV4.mod hM23 (by omega)
          replace hV9 := hV9.mod hM23 (by omega)
          replace hV16 := hV16.mod hM23 (by omega)
          have hE23 := Ext.then_mod hE22 hM23 (by omega)
          refine RL.y rfl (y_asg (v := .int _ _) rfl) ?_
          refine RL.nil ?_
          refine Fin.next ?_
          refine CW.seq ?_
          refine CW.seq ?_
          refine CW.region ?_
          refine RL.y rfl (y_mov (v := .int _ _) rfl) ?_
          refine RL.y rfl (y_ne rfl rfl) ?_
          refine RL.nil ?_
          refine Fin.next ?_
          refine CW.cond rfl rfl (fun h4 => ?_) (fun h4 => ?_)
          · with_reducible first | (replace h4 := deNF h4) | (replace h4 := of_decide_eq_true h4) | (replace h4 := of_decide_eq_false h4) | (replace h4 := deNT h4) | (replace h4 := deNN h4) | (replace h4 := bnT h4) | (replace h4 := bnF h4) | skip
            have hl2 := (least_facts h3).2.1 h4
            refine CW.seq ?_
            refine CW.region ?_
            refine RL.y rfl (y_mov (by conv => lhs; whnf)) ?_
            refine RL.y rfl (y_len sT22 ho10x1.sv (ints_len _) rfl) ?_
            refine RL.y rfl (y_eq rfl rfl) ?_
            refine RL.y rfl (y_mov (v := .bool _) rfl) ?_
            refine RL.split (t := 151) rfl rfl (fun h5 => ?_) (fun h5 => ?_)
            · with_reducible first | (replace h5 := deNF h5) | (replace h5 := of_decide_eq_true h5) | (replace h5 := of_decide_eq_false h5) | (replace h5 := deNT h5) | (replace h5 := deNN h5) | (replace h5 := bnT h5) | (replace h5 := bnF h5) | skip
              refine RL.pass (t := 151) rfl rfl rfl rfl ?_
              refine RL.pass (t := 151) rfl rfl rfl rfl ?_
              refine RL.y rfl (y_pickT (v := .bool _) rfl rfl) ?_
              refine RL.y rfl (y_asg (v := .bool _) rfl) ?_
              refine RL.nil ?_
              refine Fin.next ?_
              refine CW.ret ?_
              refine Fin.thenRet ?_
              refine Fin.ret1 rfl (by conv => lhs; whnf) ?_
              exact ⟨_, rfl, rfl, hE23⟩
            · with_reducible first | (replace h5 := deNF h5) | (replace h5 := of_decide_eq_true h5) | (replace h5 := of_decide_eq_false h5) | (replace h5 := deNT h5) | (replace h5 := deNN h5) | (replace h5 := bnT h5) | (replace h5 := bnF h5) | skip
              refine RL.take (t := 151) rfl rfl rfl ?_
              refine RL.y rfl (y_mov (v := .int _ _) rfl) ?_
              refine RL.take (t := 151) rfl rfl rfl ?_
              refine RL.y rfl (y_eq rfl rfl) ?_
              refine RL.y rfl (y_pickF (v := .bool _) rfl rfl) ?_
              refine RL.y rfl (y_asg (v := .bool _) rfl) ?_
              refine RL.nil ?_
              refine Fin.next ?_
              refine CW.ret ?_
              refine Fin.thenRet ?_
              refine Fin.ret1 rfl (by conv => lhs; whnf) ?_
              exact ⟨_, rfl, congrArg Value.bool (decide_eq_true (by omega)), hE23⟩
          · with_reducible first | (replace h4 := deNF h4) | (replace h4 := of_decide_eq_true h4) | (replace h4 := of_decide_eq_false h4) | (replace h4 := deNT h4) | (replace h4 := deNN h4) | (replace h4 := bnT h4) | (replace h4 := bnF h4) | skip
            obtain ⟨hq, he⟩ := least_ak h3 h4
            refine CW.skip ?_
            refine Fin.next ?_
            refine CW.seq ?_
            refine CW.region ?_
            refine RL.y rfl (y_loads ag33 rfl (eqw (hV23)) rfl) ?_
            refine RL.y rfl (y_fa fa33_1 rfl rfl) ?_
            refine RL.y rfl (y_loadv sc26 (eqw (hV9)) rfl rfl) ?_
            obtain ⟨cs2q, hcs2q⟩ := ho7x1.rd.rw3
            refine RL.y rfl (y_len sT26 hcs2q.1 hcs2q.2.1 rfl) ?_
            refine RL.call rfl (implDoorsFor_any ho21x1.rd) ?_
            rintro r w24 ⟨v124, rfl, ho24x1, hX24⟩
            have hsz24 := hX24.size
            replace ho2x1 := ho2x1.ext hX24
            replace ho5x1 := ho5x1.ext hX24
            replace ho6x1 := ho6x1.ext hX24
            replace ho7x1 := ho7x1.ext hX24
            replace ho10x1 := ho10x1.ext hX24
            replace ho11x1 := ho11x1.ext hX24
            replace ho14x1 := ho14x1.ext hX24
            replace ho17x1 := ho17x1.ext hX24
            replace ho18x1 := ho18x1.ext hX24
            replace ho20x1 := ho20x1.ext hX24
            replace ho21x1 := ho21x1.ext hX24
            replace hV4 := hV4.ext hX24
            replace hV9 := hV9.ext hX24
            replace hV16 := hV16.ext hX24
            replace hV23 := hV23.ext hX24
            have hE24 := hE23.trans hX24
            replace ho24x1 := OU.of ho24x1
            refine RL.y rfl (y_mov (by conv => lhs; whnf)) ?_
            refine RL.y rfl (y_ext0 rfl) ?_
            refine RL.y rfl (y_ext1 rfl) ?_
            refine RL.y rfl (y_asg (by conv => lhs; whnf)) ?_
            refine RL.y rfl (y_asg (v := .int _ _) rfl) ?_
            refine RL.nil ?_
            refine Fin.next ?_
            refine CW.seq ?_
            refine CW.region ?_
            refine RL.y rfl (y_mov (v := .int _ _) rfl) ?_
            refine RL.y rfl (y_eq rfl rfl) ?_
            refine RL.y rfl (y_mov (v := .bool _) rfl) ?_
            refine RL.force (t := 165) true rfl rfl ((decide_eq_true hq)) ?_
            refine RL.take (t := 165) rfl rfl rfl ?_
            refine RL.y rfl (y_mov (by conv => lhs; whnf)) ?_
            refine RL.take (t := 165) rfl rfl rfl ?_
            refine RL.y rfl (y_mov (by conv => lhs; whnf)) ?_
            refine RL.take (t := 165) rfl rfl rfl ?_
            refine RL.call rfl (likeInts_any ho24x1.sv ho20x1.sv) ?_
            rintro r w25 ⟨rfl, hX25⟩
            have hsz25 := hX25.size
            replace ho2x1 := ho2x1.ext hX25
            replace ho5x1 := ho5x1.ext hX25
            replace ho6x1 := ho6x1.ext hX25
            replace ho7x1 := ho7x1.ext hX25
            replace ho10x1 := ho10x1.ext hX25
            replace ho11x1 := ho11x1.ext hX25
            replace ho14x1 := ho14x1.ext hX25
            replace ho17x1 := ho17x1.ext hX25
            replace ho18x1 := ho18x1.ext hX25
            replace ho20x1 := ho20x1.ext hX25
            replace ho21x1 := ho21x1.ext hX25
            replace ho24x1 := ho24x1.ext hX25
            replace hV4 := hV4.ext hX25
            replace hV9 := hV9.ext hX25
            replace hV16 := hV16.ext hX25
            replace hV23 := hV23.ext hX25
            have hE25 := hE24.trans hX25
            refine RL.y rfl (y_pickT (v := .bool _) rfl rfl) ?_
            refine RL.y rfl (y_asg (v := .bool _) rfl) ?_
            refine RL.nil ?_
            refine Fin.next ?_
            refine CW.ret ?_
            refine Fin.ret1 rfl (by conv => lhs; whnf) ?_
            exact ⟨_, rfl, congrArg Value.bool (decide_eq_true he), hE25⟩
      · with_reducible first | (replace h2 := deNF h2) | (replace h2 := of_decide_eq_true h2) | (replace h2 := of_decide_eq_false h2) | (replace h2 := deNT h2) | (replace h2 := deNN h2) | (replace h2 := bnT h2) | (replace h2 := bnF h2) | skip
        obtain ⟨hA, _⟩ := short_facts h1
        refine CW.seq ?_
        refine CW.region ?_
        refine RL.y rfl (y_mov (v := .int _ _) rfl) ?_
        refine RL.y rfl (y_ne rfl rfl) ?_
        refine RL.nil ?_
        refine Fin.next ?_
        refine CW.condF rfl (by first | (simp; done) | exact decide_eq_false (by omega) | (simp [*]; done) | assumption) ?_
        refine CW.skip ?_
        refine Fin.next ?_
        refine CW.seq ?_
        refine CW.seq ?_
        refine CW.region ?_
        refine RL.y rfl (y_mov (v := .int _ _) rfl) ?_
        refine RL.y rfl (y_ne rfl rfl) ?_
        refine RL.nil ?_
        refine Fin.next ?_
        refine CW.cond rfl rfl (fun h3 => ?_) (fun h3 => ?_)
        · with_reducible first | (replace h3 := deNF h3) | (replace h3 := of_decide_eq_true h3) | (replace h3 := of_decide_eq_false h3) | (replace h3 := deNT h3) | (replace h3 := deNN h3) | (replace h3 := bnT h3) | (replace h3 := bnF h3) | skip
          refine CW.seq ?_
          refine CW.region ?_
          refine RL.y rfl (y_asg rfl) ?_
          refine RL.nil ?_
          refine Fin.next ?_
          refine CW.ret ?_
          refine Fin.thenRet ?_
          refine Fin.ret1 rfl (by conv => lhs; whnf) ?_
          exact ⟨_, rfl, rfl, hE16⟩
        · with_reducible first | (replace h3 := deNF h3) | (replace h3 := of_decide_eq_true h3) | (replace h3 := of_decide_eq_false h3) | (replace h3 := deNT h3) | (replace h3 := deNN h3) | (replace h3 := bnT h3) | (replace h3 := bnF h3) | skip
          have hl1 := (least_facts h3).1
          refine CW.skip ?_
          refine Fin.next ?_
          refine CW.seq ?_
          refine CW.region ?_
          refine RL.y rfl (y_loads ag33 rfl (eqw (hV9)) rfl) ?_
          refine RL.y rfl (y_mov (v := .int _ _) rfl) ?_
          refine RL.call rfl (implDoorsFor_any ho7x1.rd) ?_
          rintro r w26 ⟨v126, rfl, ho26x1, hX26⟩
          have hsz26 := hX26.size
          replace ho2x1 := ho2x1.ext hX26
          replace ho5x1 := ho5x1.ext hX26
          replace ho6x1 := ho6x1.ext hX26
          replace ho7x1 := ho7x1.ext hX26
          replace ho10x1 := ho10x1.ext hX26
          replace ho11x1 := ho11x1.ext hX26
          replace ho14x1 := ho14x1.ext hX26
          replace hV4 := hV4.ext hX26
          replace hV9 := hV9.ext hX26
          replace hV16 := hV16.ext hX26
          have hE26 := hE16.trans hX26
          replace ho26x1 := OU.of ho26x1
          refine RL.y rfl (y_mov (by conv => lhs; whnf)) ?_
          refine RL.y rfl (y_ext0 rfl) ?_
          refine RL.y rfl (y_ext1 rfl) ?_
          refine RL.y rfl (y_asg (by conv => lhs; whnf)) ?_
          refine RL.y rfl (y_asg (v := .int _ _) rfl) ?_
          refine RL.nil ?_
          refine Fin.next ?_
          refine CW.seq ?_
          refine CW.seq ?_
          refine CW.region ?_
          refine RL.y rfl (y_mov (v := .int _ _) rfl) ?_
          refine RL.y rfl (y_ne rfl rfl) ?_
          refine RL.y rfl (y_mov (v := .bool _) rfl) ?_
          refine RL.force (t := 131) false rfl rfl (by first | (simp; done) | exact decide_eq_false (by omega) | (simp [*]; done) | assumption) ?_
          refine RL.take (t := 131) rfl rfl rfl ?_
          refine RL.y rfl (y_mov (by conv => lhs; whnf)) ?_
          refine RL.take (t := 131) rfl rfl rfl ?_
          refine RL.y rfl (y_len sT22 ho10x1.sv (ints_len _) rfl) ?_
          refine RL.take (t := 131) rfl rfl rfl ?_
          refine RL.y rfl (y_eq rfl rfl) ?_
          refine RL.take (t := 131) rfl rfl rfl ?_
          refine RL.y rfl (y_mov (by conv => lhs; whnf)) ?_
          refine RL.take (t := 131) rfl rfl rfl ?_
          refine RL.y rfl (y_len sT22 ho26x1.sv (ints_len _) rfl) ?_
          refine RL.take (t := 131) rfl rfl rfl ?_
          refine RL.y rfl (y_eq rfl rfl) ?_
          refine RL.take (t := 131) rfl rfl rfl ?_
          refine RL.y rfl (y_bne Try.underlying4 rfl rfl) ?_
          refine RL.y rfl (y_pickF (v := .bool _) rfl rfl) ?_
          refine RL.nil ?_
          refine Fin.next ?_
          refine CW.condF rfl ((dec_bne (by omega))) ?_
          refine CW.skip ?_
          refine Fin.next ?_
          refine CW.seq ?_
          refine CW.region ?_
          refine RL.y rfl (y_loads ag33 rfl (eqw (hV9)) rfl) ?_
          refine RL.y rfl (y_mov (by conv => lhs; whnf)) ?_
          refine RL.call rfl (implAddKey_any ho7x1.rd ho10x1.sv) ?_
          rintro r w27 ⟨v127, rfl, ho27x1, hX27⟩
          have hsz27 := hX27.size
          replace ho2x1 := ho2x1.ext hX27
          replace ho5x1 := ho5x1.ext hX27
          replace ho6x1 := ho6x1.ext hX27
          replace ho7x1 := ho7x1.ext hX27
          replace ho10x1 := ho10x1.ext hX27
          replace ho11x1 := ho11x1.ext hX27
          replace ho14x1 := ho14x1.ext hX27
          replace ho26x1 := ho26x1.ext hX27
          replace hV4 := hV4.ext hX27
          replace hV9 := hV9.ext hX27
          replace hV16 := hV16.ext hX27
          have hE27 := hE26.trans hX27
          replace ho27x1 := OwP.of ho27x1
          obtain ⟨vp27x, vd27x, vr27x, _, rfl, _⟩ := id ho27x1
          refine RL.y rfl (y_mov (by conv => lhs; whnf)) ?_
          refine RL.y rfl (y_ext0 rfl) ?_
          refine RL.y rfl (y_ext1 rfl) ?_
          refine RL.alloc rfl ze33 (fun w28 hV28 hX28 => ?_)
          have hsz28 := hX28.size
          replace ho2x1 := ho2x1.ext hX28
          replace ho5x1 := ho5x1.ext hX28
          replace ho6x1 := ho6x1.ext hX28
          replace ho7x1 := ho7x1.ext hX28
          replace ho10x1 := ho10x1.ext hX28
          replace ho11x1 := ho11x1.ext hX28
          replace ho14x1 := ho14x1.ext hX28
          replace ho26x1 := ho26x1.ext hX28
          replace ho27x1 := ho27x1.ext hX28
          replace hV4 := hV4.ext hX28
          replace hV9 := hV9.ext hX28
          replace hV16 := hV16.ext hX28
          have hE28 := hE27.trans hX28
          have hlt28 := hV28.lt
          refine RL.stores ag33 (hV28) rfl rfl rfl rfl (ho27x1.one) (fun w29 hV29 hg29 => ?_)
          have hM29 := grown_mod (B := w27.heap.size) (U := w27.heap.size + 1) hg29 (fun k e => by simp only [Option.some.injEq] at e; omega)
          have hsz29 := hM29.size
          replace ho2x1 := ho2x1.mod hM29 (by omega)
          replace ho5x1 := ho5x1.mod hM29 (by omega)
          replace ho6x1 := ho6x1.mod hM29 (by omega)
          replace ho7x1 := ho7x1.mod hM29 (by omega)
          replace ho10x1 := ho10x1.mod hM29 (by omega)
          replace ho11x1 := ho11x1.mod hM29 (by omega)
          replace ho14x1 := ho14x1.mod hM29 (by omega)
          replace ho26x1 := ho26x1.mod hM29 (by omega)
          replace ho27x1 := ho27x1.mod hM29 (by omega)
          replace hV4 := hV4.mod hM29 (by omega)
          replace hV9 := hV9.mod hM29 (by omega)
          replace hV16 := hV16.mod hM29 (by omega)
          have hE29 := Ext.then_mod hE28 hM29 (by omega)
          refine RL.y rfl (y_asg (v := .int _ _) rfl) ?_
          refine RL.nil ?_
          refine Fin.next ?_
          refine CW.seq ?_
          refine CW.seq ?_
          refine CW.region ?_
          refine RL.y rfl (y_mov (v := .int _ _) rfl) ?_
          refine RL.y rfl (y_ne rfl rfl) ?_
          refine RL.nil ?_
          refine Fin.next ?_
          refine CW.cond rfl rfl (fun h4 => ?_) (fun h4 => ?_)
          · with_reducible first | (replace h4 := deNF h4) | (replace h4 := of_decide_eq_true h4) | (replace h4 := of_decide_eq_false h4) | (replace h4 := deNT h4) | (replace h4 := deNN h4) | (replace h4 := bnT h4) | (replace h4 := bnF h4) | skip
            have hl2 := (least_facts h3).2.1 h4
            refine CW.seq ?_
            refine CW.region ?_
            refine RL.y rfl (y_mov (by conv => lhs; whnf)) ?_
            refine RL.y rfl (y_len sT22 ho10x1.sv (ints_len _) rfl) ?_
            refine RL.y rfl (y_eq rfl rfl) ?_
            refine RL.y rfl (y_mov (v := .bool _) rfl) ?_
            refine RL.split (t := 151) rfl rfl (fun h5 => ?_) (fun h5 => ?_)
            · with_reducible first | (replace h5 := deNF h5) | (replace h5 := of_decide_eq_true h5) | (replace h5 := of_decide_eq_false h5) | (replace h5 := deNT h5) | (replace h5 := deNN h5) | (replace h5 := bnT h5) | (replace h5 := bnF h5) | skip
              refine RL.pass (t := 151) rfl rfl rfl rfl ?_
              refine RL.pass (t := 151) rfl rfl rfl rfl ?_
              refine RL.y rfl (y_pickT (v := .bool _) rfl rfl) ?_
              refine RL.y rfl (y_asg (v := .bool _) rfl) ?_
              refine RL.nil ?_
              refine Fin.next ?_
              refine CW.ret ?_
              refine Fin.thenRet ?_
              refine Fin.ret1 rfl (by conv => lhs; whnf) ?_
              exact ⟨_, rfl, rfl, hE29⟩
            · with_reducible first | (replace h5 := deNF h5) | (replace h5 := of_decide_eq_true h5) | (replace h5 := of_decide_eq_false h5) | (replace h5 := deNT h5) | (replace h5 := deNN h5) | (replace h5 := bnT h5) | (replace h5 := bnF h5) | skip
              refine RL.take (t := 151) rfl rfl rfl ?_
              refine RL.y rfl (y_mov (v := .int _ _) rfl) ?_
              refine RL.take (t := 151) rfl rfl rfl ?_
              refine RL.y rfl (y_eq rfl rfl) ?_
              refine RL.y rfl (y_pickF (v := .bool _) rfl rfl) ?_
              refine RL.y rfl (y_asg (v := .bool _) rfl) ?_
              refine RL.nil ?_
              refine Fin.next ?_
              refine CW.ret ?_
              refine Fin.thenRet ?_
              refine Fin.ret1 rfl (by conv => lhs; whnf) ?_
              exact ⟨_, rfl, congrArg Value.bool (decide_eq_true (by omega)), hE29⟩
          · with_reducible first | (replace h4 := deNF h4) | (replace h4 := of_decide_eq_true h4) | (replace h4 := of_decide_eq_false h4) | (replace h4 := deNT h4) | (replace h4 := deNN h4) | (replace h4 := bnT h4) | (replace h4 := bnF h4) | skip
            obtain ⟨hq, he⟩ := least_ak h3 h4
            refine CW.skip ?_
            refine Fin.next ?_
            refine CW.seq ?_
            refine CW.region ?_
            refine RL.y rfl (y_loads ag33 rfl (eqw (hV29)) rfl) ?_
            refine RL.y rfl (y_fa fa33_1 rfl rfl) ?_
            refine RL.y rfl (y_loadv sc26 (eqw (hV9)) rfl rfl) ?_
            obtain ⟨cs1q, hcs1q⟩ := ho7x1.rd.rw3
            refine RL.y rfl (y_len sT26 hcs1q.1 hcs1q.2.1 rfl) ?_
            refine RL.call rfl (implDoorsFor_any ho27x1.rd) ?_
            rintro r w30 ⟨v130, rfl, ho30x1, hX30⟩
            have hsz30 := hX30.size
            replace ho2x1 := ho2x1.ext hX30
            replace ho5x1 := ho5x1.ext hX30
            replace ho6x1 := ho6x1.ext hX30
            replace ho7x1 := ho7x1.ext hX30
            replace ho10x1 := ho10x1.ext hX30
            replace ho11x1 := ho11x1.ext hX30
            replace ho14x1 := ho14x1.ext hX30
            replace ho26x1 := ho26x1.ext hX30
            replace ho27x1 := ho27x1.ext hX30
            replace hV4 := hV4.ext hX30
            replace hV9 := hV9.ext hX30
            replace hV16 := hV16.ext hX30
            replace hV29 := hV29.ext hX30
            have hE30 := hE29.trans hX30
            replace ho30x1 := OU.of ho30x1
            refine RL.y rfl (y_mov (by conv => lhs; whnf)) ?_
            refine RL.y rfl (y_ext0 rfl) ?_
            refine RL.y rfl (y_ext1 rfl) ?_
            refine RL.y rfl (y_asg (by conv => lhs; whnf)) ?_
            refine RL.y rfl (y_asg (v := .int _ _) rfl) ?_
            refine RL.nil ?_
            refine Fin.next ?_
            refine CW.seq ?_
            refine CW.region ?_
            refine RL.y rfl (y_mov (v := .int _ _) rfl) ?_
            refine RL.y rfl (y_eq rfl rfl) ?_
            refine RL.y rfl (y_mov (v := .bool _) rfl) ?_
            refine RL.force (t := 165) true rfl rfl ((decide_eq_true hq)) ?_
            refine RL.take (t := 165) rfl rfl rfl ?_
            refine RL.y rfl (y_mov (by conv => lhs; whnf)) ?_
            refine RL.take (t := 165) rfl rfl rfl ?_
            refine RL.y rfl (y_mov (by conv => lhs; whnf)) ?_
            refine RL.take (t := 165) rfl rfl rfl ?_
            refine RL.call rfl (likeInts_any ho30x1.sv ho26x1.sv) ?_
            rintro r w31 ⟨rfl, hX31⟩
            have hsz31 := hX31.size
            replace ho2x1 := ho2x1.ext hX31
            replace ho5x1 := ho5x1.ext hX31
            replace ho6x1 := ho6x1.ext hX31
            replace ho7x1 := ho7x1.ext hX31
            replace ho10x1 := ho10x1.ext hX31
            replace ho11x1 := ho11x1.ext hX31
            replace ho14x1 := ho14x1.ext hX31
            replace ho26x1 := ho26x1.ext hX31
            replace ho27x1 := ho27x1.ext hX31
            replace ho30x1 := ho30x1.ext hX31
            replace hV4 := hV4.ext hX31
            replace hV9 := hV9.ext hX31
            replace hV16 := hV16.ext hX31
            replace hV29 := hV29.ext hX31
            have hE31 := hE30.trans hX31
            refine RL.y rfl (y_pickT (v := .bool _) rfl rfl) ?_
            refine RL.y rfl (y_asg (v := .bool _) rfl) ?_
            refine RL.nil ?_
            refine Fin.next ?_
            refine CW.ret ?_
            refine Fin.ret1 rfl (by conv => lhs; whnf) ?_
            exact ⟨_, rfl, congrArg Value.bool (decide_eq_true he), hE31⟩
    · with_reducible first | (replace h1 := deNF h1) | (replace h1 := of_decide_eq_true h1) | (replace h1 := of_decide_eq_false h1) | (replace h1 := deNT h1) | (replace h1 := deNN h1) | (replace h1 := bnT h1) | (replace h1 := bnF h1) | skip
      refine CW.skip ?_
      refine Fin.next ?_
      refine CW.seq ?_
      refine CW.seq ?_
      refine CW.region ?_
      refine RL.y rfl (y_mov (v := .int _ _) rfl) ?_
      refine RL.y rfl (y_ne rfl rfl) ?_
      refine RL.nil ?_
      refine Fin.next ?_
      refine CW.cond rfl rfl (fun h3 => ?_) (fun h3 => ?_)
      · with_reducible first | (replace h3 := deNF h3) | (replace h3 := of_decide_eq_true h3) | (replace h3 := of_decide_eq_false h3) | (replace h3 := deNT h3) | (replace h3 := deNN h3) | (replace h3 := bnT h3) | (replace h3 := bnF h3) | skip
        refine CW.seq ?_
        refine CW.region ?_
        refine RL.y rfl (y_asg rfl) ?_
        refine RL.nil ?_
        refine Fin.next ?_
        refine CW.ret ?_
        refine Fin.thenRet ?_
        refine Fin.ret1 rfl (by conv => lhs; whnf) ?_
        exact ⟨_, rfl, rfl, hE13⟩
      · with_reducible first | (replace h3 := deNF h3) | (replace h3 := of_decide_eq_true h3) | (replace h3 := of_decide_eq_false h3) | (replace h3 := deNT h3) | (replace h3 := deNN h3) | (replace h3 := bnT h3) | (replace h3 := bnF h3) | skip
        have hl1 := (least_facts h3).1
        refine CW.skip ?_
        refine Fin.next ?_
        refine CW.seq ?_
        refine CW.region ?_
        refine RL.y rfl (y_loads ag33 rfl (eqw (hV9)) rfl) ?_
        refine RL.y rfl (y_mov (v := .int _ _) rfl) ?_
        refine RL.call rfl (implDoorsFor_any ho7x1.rd) ?_
        rintro r w32 ⟨v132, rfl, ho32x1, hX32⟩
        have hsz32 := hX32.size
        replace ho2x1 := ho2x1.ext hX32
        replace ho5x1 := ho5x1.ext hX32
        replace ho6x1 := ho6x1.ext hX32
        replace ho7x1 := ho7x1.ext hX32
        replace ho10x1 := ho10x1.ext hX32
        replace ho11x1 := ho11x1.ext hX32
        replace hV4 := hV4.ext hX32
        replace hV9 := hV9.ext hX32
        have hE32 := hE13.trans hX32
        replace ho32x1 := OU.of ho32x1
        refine RL.y rfl (y_mov (by conv => lhs; whnf)) ?_
        refine RL.y rfl (y_ext0 rfl) ?_
        refine RL.y rfl (y_ext1 rfl) ?_
        refine RL.y rfl (y_asg (by conv => lhs; whnf)) ?_
        refine RL.y rfl (y_asg (v := .int _ _) rfl) ?_
        refine RL.nil ?_
        refine Fin.next ?_
        refine CW.seq ?_
        refine CW.seq ?_
        refine CW.region ?_
        refine RL.y rfl (y_mov (v := .int _ _) rfl) ?_
        refine RL.y rfl (y_ne rfl rfl) ?_
        refine RL.y rfl (y_mov (v := .bool _) rfl) ?_
        refine RL.force (t := 131) false rfl rfl (by first | (simp; done) | exact decide_eq_false (by omega) | (simp [*]; done) | assumption) ?_
        refine RL.take (t := 131) rfl rfl rfl ?_
        refine RL.y rfl (y_mov (by conv => lhs; whnf)) ?_
        refine RL.take (t := 131) rfl rfl rfl ?_
        refine RL.y rfl (y_len sT22 ho10x1.sv (ints_len _) rfl) ?_
        refine RL.take (t := 131) rfl rfl rfl ?_
        refine RL.y rfl (y_eq rfl rfl) ?_
        refine RL.take (t := 131) rfl rfl rfl ?_
        refine RL.y rfl (y_mov (by conv => lhs; whnf)) ?_
        refine RL.take (t := 131) rfl rfl rfl ?_
        refine RL.y rfl (y_len sT22 ho32x1.sv (ints_len _) rfl) ?_
        refine RL.take (t := 131) rfl rfl rfl ?_
        refine RL.y rfl (y_eq rfl rfl) ?_
        refine RL.take (t := 131) rfl rfl rfl ?_
        refine RL.y rfl (y_bne Try.underlying4 rfl rfl) ?_
        refine RL.y rfl (y_pickF (v := .bool _) rfl rfl) ?_
        refine RL.nil ?_
        refine Fin.next ?_
        refine CW.condF rfl ((dec_bne (by omega))) ?_
        refine CW.skip ?_
        refine Fin.next ?_
        refine CW.seq ?_
        refine CW.region ?_
        refine RL.y rfl (y_loads ag33 rfl (eqw (hV9)) rfl) ?_
        refine RL.y rfl (y_mov (by conv => lhs; whnf)) ?_
        refine RL.call rfl (implAddKey_any ho7x1.rd ho10x1.sv) ?_
        rintro r w33 ⟨v133, rfl, ho33x1, hX33⟩
        have hsz33 := hX33.size
        replace ho2x1 := ho2x1.ext hX33
        replace ho5x1 := ho5x1.ext hX33
        replace ho6x1 := ho6x1.ext hX33
        replace ho7x1 := ho7x1.ext hX33
        replace ho10x1 := ho10x1.ext hX33
        replace ho11x1 := ho11x1.ext hX33
        replace ho32x1 := ho32x1.ext hX33
        replace hV4 := hV4.ext hX33
        replace hV9 := hV9.ext hX33
        have hE33 := hE32.trans hX33
        replace ho33x1 := OwP.of ho33x1
        obtain ⟨vp33x, vd33x, vr33x, _, rfl, _⟩ := id ho33x1
        refine RL.y rfl (y_mov (by conv => lhs; whnf)) ?_
        refine RL.y rfl (y_ext0 rfl) ?_
        refine RL.y rfl (y_ext1 rfl) ?_
        refine RL.alloc rfl ze33 (fun w34 hV34 hX34 => ?_)
        have hsz34 := hX34.size
        replace ho2x1 := ho2x1.ext hX34
        replace ho5x1 := ho5x1.ext hX34
        replace ho6x1 := ho6x1.ext hX34
        replace ho7x1 := ho7x1.ext hX34
        replace ho10x1 := ho10x1.ext hX34
        replace ho11x1 := ho11x1.ext hX34
        replace ho32x1 := ho32x1.ext hX34
        replace ho33x1 := ho33x1.ext hX34
        replace hV4 := hV4.ext hX34
        replace hV9 := hV9.ext hX34
        have hE34 := hE33.trans hX34
        have hlt34 := hV34.lt
        refine RL.stores ag33 (hV34) rfl rfl rfl rfl (ho33x1.one) (fun w35 hV35 hg35 => ?_)
        have hM35 := grown_mod (B := w33.heap.size) (U := w33.heap.size + 1) hg35 (fun k e => by simp only [Option.some.injEq] at e; omega)
        have hsz35 := hM35.size
        replace ho2x1 := ho2x1.mod hM35 (by omega)
        replace ho5x1 := ho5x1.mod hM35 (by omega)
        replace ho6x1 := ho6x1.mod hM35 (by omega)
        replace ho7x1 := ho7x1.mod hM35 (by omega)
        replace ho10x1 := ho10x1.mod hM35 (by omega)
        replace ho11x1 := ho11x1.mod hM35 (by omega)
        replace ho32x1 := ho32x1.mod hM35 (by omega)
        replace ho33x1 := ho33x1.mod hM35 (by omega)
        replace hV4 := hV4.mod hM35 (by omega)
        replace hV9 := hV9.mod hM35 (by omega)
        have hE35 := Ext.then_mod hE34 hM35 (by omega)
        refine RL.y rfl (y_asg (v := .int _ _) rfl) ?_
        refine RL.nil ?_
        refine Fin.next ?_
        refine CW.seq ?_
        refine CW.seq ?_
        refine CW.region ?_
        refine RL.y rfl (y_mov (v := .int _ _) rfl) ?_
        refine RL.y rfl (y_ne rfl rfl) ?_
        refine RL.nil ?_
        refine Fin.next ?_
        refine CW.cond rfl rfl (fun h4 => ?_) (fun h4 => ?_)
        · with_reducible first | (replace h4 := deNF h4) | (replace h4 := of_decide_eq_true h4) | (replace h4 := of_decide_eq_false h4) | (replace h4 := deNT h4) | (replace h4 := deNN h4) | (replace h4 := bnT h4) | (replace h4 := bnF h4) | skip
          have hl2 := (least_facts h3).2.1 h4
          refine CW.seq ?_
          refine CW.region ?_
          refine RL.y rfl (y_mov (by conv => lhs; whnf)) ?_
          refine RL.y rfl (y_len sT22 ho10x1.sv (ints_len _) rfl) ?_
          refine RL.y rfl (y_eq rfl rfl) ?_
          refine RL.y rfl (y_mov (v := .bool _) rfl) ?_
          refine RL.split (t := 151) rfl rfl (fun h5 => ?_) (fun h5 => ?_)
          · with_reducible first | (replace h5 := deNF h5) | (replace h5 := of_decide_eq_true h5) | (replace h5 := of_decide_eq_false h5) | (replace h5 := deNT h5) | (replace h5 := deNN h5) | (replace h5 := bnT h5) | (replace h5 := bnF h5) | skip
            refine RL.pass (t := 151) rfl rfl rfl rfl ?_
            refine RL.pass (t := 151) rfl rfl rfl rfl ?_
            refine RL.y rfl (y_pickT (v := .bool _) rfl rfl) ?_
            refine RL.y rfl (y_asg (v := .bool _) rfl) ?_
            refine RL.nil ?_
            refine Fin.next ?_
            refine CW.ret ?_
            refine Fin.thenRet ?_
            refine Fin.ret1 rfl (by conv => lhs; whnf) ?_
            exact ⟨_, rfl, rfl, hE35⟩
          · with_reducible first | (replace h5 := deNF h5) | (replace h5 := of_decide_eq_true h5) | (replace h5 := of_decide_eq_false h5) | (replace h5 := deNT h5) | (replace h5 := deNN h5) | (replace h5 := bnT h5) | (replace h5 := bnF h5) | skip
            refine RL.take (t := 151) rfl rfl rfl ?_
            refine RL.y rfl (y_mov (v := .int _ _) rfl) ?_
            refine RL.take (t := 151) rfl rfl rfl ?_
            refine RL.y rfl (y_eq rfl rfl) ?_
            refine RL.y rfl (y_pickF (v := .bool _) rfl rfl) ?_
            refine RL.y rfl (y_asg (v := .bool _) rfl) ?_
            refine RL.nil ?_
            refine Fin.next ?_
            refine CW.ret ?_
            refine Fin.thenRet ?_
            refine Fin.ret1 rfl (by conv => lhs; whnf) ?_
            exact ⟨_, rfl, congrArg Value.bool (decide_eq_true (by omega)), hE35⟩
        · with_reducible first | (replace h4 := deNF h4) | (replace h4 := of_decide_eq_true h4) | (replace h4 := of_decide_eq_false h4) | (replace h4 := deNT h4) | (replace h4 := deNN h4) | (replace h4 := bnT h4) | (replace h4 := bnF h4) | skip
          obtain ⟨hq, he⟩ := least_ak h3 h4
          refine CW.skip ?_
          refine Fin.next ?_
          refine CW.seq ?_
          refine CW.region ?_
          refine RL.y rfl (y_loads ag33 rfl (eqw (hV35)) rfl) ?_
          refine RL.y rfl (y_fa fa33_1 rfl rfl) ?_
          refine RL.y rfl (y_loadv sc26 (eqw (hV9)) rfl rfl) ?_
          obtain ⟨cs1q, hcs1q⟩ := ho7x1.rd.rw3
          refine RL.y rfl (y_len sT26 hcs1q.1 hcs1q.2.1 rfl) ?_
          refine RL.call rfl (implDoorsFor_any ho33x1.rd) ?_
          rintro r w36 ⟨v136, rfl, ho36x1, hX36⟩
          have hsz36 := hX36.size
          replace ho2x1 := ho2x1.ext hX36
          replace ho5x1 := ho5x1.ext hX36
          replace ho6x1 := ho6x1.ext hX36
          replace ho7x1 := ho7x1.ext hX36
          replace ho10x1 := ho10x1.ext hX36
          replace ho11x1 := ho11x1.ext hX36
          replace ho32x1 := ho32x1.ext hX36
          replace ho33x1 := ho33x1.ext hX36
          replace hV4 := hV4.ext hX36
          replace hV9 := hV9.ext hX36
          replace hV35 := hV35.ext hX36
          have hE36 := hE35.trans hX36
          replace ho36x1 := OU.of ho36x1
          refine RL.y rfl (y_mov (by conv => lhs; whnf)) ?_
          refine RL.y rfl (y_ext0 rfl) ?_
          refine RL.y rfl (y_ext1 rfl) ?_
          refine RL.y rfl (y_asg (by conv => lhs; whnf)) ?_
          refine RL.y rfl (y_asg (v := .int _ _) rfl) ?_
          refine RL.nil ?_
          refine Fin.next ?_
          refine CW.seq ?_
          refine CW.region ?_
          refine RL.y rfl (y_mov (v := .int _ _) rfl) ?_
          refine RL.y rfl (y_eq rfl rfl) ?_
          refine RL.y rfl (y_mov (v := .bool _) rfl) ?_
          refine RL.force (t := 165) true rfl rfl ((decide_eq_true hq)) ?_
          refine RL.take (t := 165) rfl rfl rfl ?_
          refine RL.y rfl (y_mov (by conv => lhs; whnf)) ?_
          refine RL.take (t := 165) rfl rfl rfl ?_
          refine RL.y rfl (y_mov (by conv => lhs; whnf)) ?_
          refine RL.take (t := 165) rfl rfl rfl ?_
          refine RL.call rfl (likeInts_any ho36x1.sv ho32x1.sv) ?_
          rintro r w37 ⟨rfl, hX37⟩
          have hsz37 := hX37.size
          replace ho2x1 := ho2x1.ext hX37
          replace ho5x1 := ho5x1.ext hX37
          replace ho6x1 := ho6x1.ext hX37
          replace ho7x1 := ho7x1.ext hX37
          replace ho10x1 := ho10x1.ext hX37
          replace ho11x1 := ho11x1.ext hX37
          replace ho32x1 := ho32x1.ext hX37
          replace ho33x1 := ho33x1.ext hX37
          replace ho36x1 := ho36x1.ext hX37
          replace hV4 := hV4.ext hX37
          replace hV9 := hV9.ext hX37
          replace hV35 := hV35.ext hX37
          have hE37 := hE36.trans hX37
          refine RL.y rfl (y_pickT (v := .bool _) rfl rfl) ?_
          refine RL.y rfl (y_asg (v := .bool _) rfl) ?_
          refine RL.nil ?_
          refine Fin.next ?_
          refine CW.ret ?_
          refine Fin.ret1 rfl (by conv => lhs; whnf) ?_
          exact ⟨_, rfl, congrArg Value.bool (decide_eq_true he), hE37⟩
namespace fnRights
open Go.ChangeShapes Go.WideShapes Go.ChangeAt Go.RowKit
set_option linter.unusedVariables false
theorem own : ownKnob Try.prog.godebug = none := by kernel_rfl
theorem laidOut : laidOutB Try.prog = true := by kernel_rfl
set_option maxRecDepth 100000 in
theorem lifted (os : Os) (started : os.Started) (H : Type) (enc : TypeId × Value → H) :
    ReturnsInHanded {} Try.checked os 12 .any (Rows.fnRightsSpec.pre6 enc Try.prog Try.f12 Rows.fnRightsRow.domain false) (Rows.fnRightsSpec.post enc Try.prog Try.f12 false true false false) := by
  refine returnsInHanded_of_change (C := Try.checked) own started (by kernel_rfl) Try.func12
    (ChangeSpec.witness6 (enc := enc) (C := Try.checked) false ⟨#[], #[.slice none 0 0], []⟩ 8 (by kernel_rfl) (by kernel_rfl) (by kernel_rfl) (by kernel_rfl)) ?_
  intro W base args ds gs before hval0 hW hcnd _
  have hval : ∀ (j : Nat) t v, Try.f12.params[j]? = some t → args[j]? = some v → Value.okWide Try.prog W .any base t v := hval0
  have hW' := hW
  obtain ⟨p, q, hA0, hV, rfl, hfz, hnd⟩ := hW
  have hA : DataW.TrodAll enc Try.prog W 0 (fun _ => true) true Try.f12.params.toList args.toList ds p := hA0
  rw [Try.params12] at hA hval
  have hkeep := hA
  obtain ⟨v0, vs0, d0, ds0, p0, q0, hargs, rfl, rfl, h0, r0⟩ := trodAll_cons hA
  obtain ⟨rfl, rfl, rfl⟩ := trodAll_nil r0
  obtain rfl : args = #[v0] := by cases args; simp_all
  obtain ⟨rfl, rfl⟩ := trodVars_none hV
  obtain ⟨l0, hs0⟩ := open_SU8 Try.underlying55 Try.underlying5 (by kernel_rfl) (hval 0 55 v0 rfl rfl) h0
  refine (lawRights W v0 l0 hs0).calls.mono fun e W' ⟨r, he, hr, hg⟩ => ?_
  subst hr
  subst he
  exact ⟨_, rfl, _, _, _, [] ++ [], _, [], hW', trodAll_cons_mk (shut_bool Try.underlying4 _) trodAll_mk0, trodAll_ext laidOut (by kernel_rfl) hkeep hg (fun x hx => hW'.lt x (List.mem_append_left _ hx)), rfl, hg.frame _, fun h => by cases h⟩
theorem over : Rows.fnRightsRow.holds Try.pinned (OpenSpec.ofChange Rows.fnRightsSpec) :=
  OpenClaim.holds_of_wide 12 Try.f12 rfl rfl rfl rfl rfl rfl rfl ⟨rfl, rfl, rfl, rfl, rfl⟩ rfl rfl rfl rfl rfl (by kernel_rfl) Try.func12 (by kernel_rfl)
    (of_decide_eq_true (by kernel_rfl)) (by unfold Func.isWrapper; first | (rw [if_pos (by decide +kernel)]; kernel_rfl) | (rw [if_neg (by decide +kernel)]; exact ⟨rfl, rfl⟩))
    (fun os started H enc _ => lifted os started H enc)
theorem proved : Rows.FnRightsSaid := over
end fnRights
#print axioms fnRights.proved
end Go.Proofs.Ytkkeipogkjlneaa
