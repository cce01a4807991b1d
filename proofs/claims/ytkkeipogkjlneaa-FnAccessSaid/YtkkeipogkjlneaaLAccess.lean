/-
  Who may enter: the doors of a key and the keys of a door agree with each other; the program's answers are the reference's. No condition.
-/
import Derived.Test.YtkkeipogkjlneaaFDrawP
import Derived.Test.YtkkeipogkjlneaaFLike
import Derived.Test.YtkkeipogkjlneaaPln3
import Derived.Test.YtkkeipogkjlneaaLift6
import Derived.Test.YtkkeipogkjlneaaRows
namespace Go.Proofs.Ytkkeipogkjlneaa
open B Go.RowKit

theorem lawAccess (w : World) (v0 : Value) (l0 : List UInt8) (hs0 : SV w v0 (byts l0)) :
    Does Try.prog 14 #[v0] w (fun r w' => r = .bool true ∧ Ext w w') := by
  refine enter Try.func14 rfl 181 Try.ntmps14 rfl (by kernel_rfl) ?_
  refine CW.seq ?_
  refine CW.region ?_
  refine RL.y rfl (y_asg rfl) ?_
  refine RL.nil ?_
  refine Fin.next ?_
  refine CW.seq ?_
  refine CW.seq ?_
  refine CW.region ?_
  refine RL.y rfl (y_mov (by conv => lhs; whnf)) ?_
  refine RL.call rfl (big_any (hs0.ext (Ext.refl w))) ?_
  rintro r w1 ⟨rfl, rfl⟩
  refine RL.nil ?_
  refine Fin.next ?_
  refine CW.cond rfl rfl (fun hbig => ?_) (fun hbig => ?_)
  · with_reducible first | (replace hbig := deNF hbig) | (replace hbig := of_decide_eq_true hbig) | (replace hbig := of_decide_eq_false hbig) | (replace hbig := deNT hbig) | (replace hbig := deNN hbig) | (replace hbig := bnT hbig) | (replace hbig := bnF hbig) | skip
    refine CW.seq ?_
    refine CW.region ?_
    refine RL.y rfl (y_asg rfl) ?_
    refine RL.nil ?_
    refine Fin.next ?_
    refine CW.ret ?_
    refine Fin.thenRet ?_
    refine Fin.ret1 rfl (by conv => lhs; whnf) ?_
    exact ⟨_, rfl, rfl, (Ext.refl w)⟩
  · with_reducible first | (replace hbig := deNF hbig) | (replace hbig := of_decide_eq_true hbig) | (replace hbig := of_decide_eq_false hbig) | (replace hbig := deNT hbig) | (replace hbig := deNN hbig) | (replace hbig := bnT hbig) | (replace hbig := bnF hbig) | skip
    refine CW.skip ?_
    refine Fin.next ?_
    refine CW.seq ?_
    refine CW.region ?_
    refine RL.y rfl (y_mov (by conv => lhs; whnf)) ?_
    refine RL.call rfl (DrawAccessOf_any (hs0.ext (Ext.refl w))) ?_
    rintro v w2 ⟨ps2, ds2, rs2, ho2x0, _, hX2⟩
    have hsz2 := hX2.size
    have hE2 := hX2
    replace ho2x0 := RuP.of ho2x0
    obtain ⟨vp2x, vd2x, vr2x, rfl, _⟩ := id ho2x0
    refine RL.alloc rfl ze33 (fun w3 hV3 hX3 => ?_)
    have hsz3 := hX3.size
    replace ho2x0 := ho2x0.ext hX3
    have hE3 := hE2.trans hX3
    have hlt3 := hV3.lt
    refine RL.stores ag33 (hV3) rfl rfl rfl rfl (ho2x0.one) (fun w4 hV4 hg4 => ?_)
    have hM4 := grown_mod (B := w2.heap.size) (U := w2.heap.size + 1) hg4 (fun k e => by simp only [Option.some.injEq] at e; omega)
    have hsz4 := hM4.size
    replace ho2x0 := ho2x0.mod hM4 (by omega)
    have hE4 := Ext.then_mod hE3 hM4 (by omega)
    refine RL.nil ?_
    refine Fin.next ?_
    refine CW.seq ?_
    refine CW.region ?_
    refine RL.y rfl (y_loads ag33 rfl (eqw (hV4)) rfl) ?_
    refine RL.call rfl (implAccessOf_any ho2x0.rd) ?_
    rintro r w5 ⟨v15, rfl, ho5x1, hX5⟩
    have hsz5 := hX5.size
    replace ho2x0 := ho2x0.ext hX5
    replace hV4 := hV4.ext hX5
    have hE5 := hE4.trans hX5
    replace ho5x1 := OwSS.of ho5x1
    refine RL.y rfl (y_mov (by conv => lhs; whnf)) ?_
    refine RL.y rfl (y_ext0 rfl) ?_
    refine RL.y rfl (y_ext1 rfl) ?_
    refine RL.y rfl (y_asg (by conv => lhs; whnf)) ?_
    refine RL.y rfl (y_asg (v := .int _ _) rfl) ?_
    refine RL.nil ?_
    refine Fin.next ?_
    refine CW.seq ?_
    refine CW.region ?_
    refine RL.y rfl (y_loads ag33 rfl (eqw (hV4)) rfl) ?_
    refine RL.call rfl (specAccessOf_any ho2x0.rd) ?_
    rintro r w6 ⟨v16, rfl, ho6x1, hX6⟩
    have hsz6 := hX6.size
    replace ho2x0 := ho2x0.ext hX6
    replace ho5x1 := ho5x1.ext hX6
    replace hV4 := hV4.ext hX6
    have hE6 := hE5.trans hX6
    replace ho6x1 := OwSS.of ho6x1
    refine RL.y rfl (y_mov (by conv => lhs; whnf)) ?_
    refine RL.y rfl (y_ext0 rfl) ?_
    refine RL.y rfl (y_ext1 rfl) ?_
    refine RL.y rfl (y_asg (by conv => lhs; whnf)) ?_
    refine RL.y rfl (y_asg (v := .int _ _) rfl) ?_
    refine RL.nil ?_
    refine Fin.next ?_
    refine CW.seq ?_
    refine CW.region ?_
    refine RL.y rfl (y_mov (by conv => lhs; whnf)) ?_
    refine RL.call rfl (DrawMayEnter_any (hs0.ext hE6)) ?_
    rintro r w7 ⟨v17, ps7, ds7, rs7, x7, y7, rfl, ho7x1, _, hX7⟩
    have hsz7 := hX7.size
    replace ho2x0 := ho2x0.ext hX7
    replace ho5x1 := ho5x1.ext hX7
    replace ho6x1 := ho6x1.ext hX7
    replace hV4 := hV4.ext hX7
    have hE7 := hE6.trans hX7
    replace ho7x1 := RuP.of ho7x1
    obtain ⟨vp7x, vd7x, vr7x, rfl, _⟩ := id ho7x1
    refine RL.y rfl (y_mov (by conv => lhs; whnf)) ?_
    refine RL.y rfl (y_ext0 rfl) ?_
    refine RL.y rfl (y_ext1 rfl) ?_
    refine RL.y rfl (y_ext2 rfl) ?_
    refine RL.alloc rfl ze33 (fun w8 hV8 hX8 => ?_)
    have hsz8 := hX8.size
    replace ho2x0 := ho2x0.ext hX8
    replace ho5x1 := ho5x1.ext hX8
    replace ho6x1 := ho6x1.ext hX8
    replace ho7x1 := ho7x1.ext hX8
    replace hV4 := hV4.ext hX8
    have hE8 := hE7.trans hX8
    have hlt8 := hV8.lt
    refine RL.stores ag33 (hV8) rfl rfl rfl rfl (ho7x1.one) (fun w9 hV9 hg9 => ?_)
    have hM9 := grown_mod (B := w7.heap.size) (U := w7.heap.size + 1) hg9 (fun k e => by simp only [Option.some.injEq] at e; omega)
    have hsz9 := hM9.size
    replace ho2x0 := ho2x0.mod hM9 (by omega)
    replace ho5x1 := ho5x1.mod hM9 (by omega)
    replace ho6x1 := ho6x1.mod hM9 (by omega)
    replace ho7x1 := ho7x1.mod hM9 (by omega)
    replace hV4 := hV4.mod hM9 (by omega)
    have hE9 := Ext.then_mod hE8 hM9 (by omega)
    refine RL.y rfl (y_asg (v := .int _ _) rfl) ?_
    refine RL.y rfl (y_asg (v := .int _ _) rfl) ?_
    refine RL.nil ?_
    refine Fin.next ?_
    refine CW.seq ?_
    refine CW.region ?_
    refine RL.y rfl (y_loads ag33 rfl (eqw (hV9)) rfl) ?_
    refine RL.y rfl (y_mov (v := .int _ _) rfl) ?_
    refine RL.y rfl (y_mov (v := .int _ _) rfl) ?_
    refine RL.call rfl (implMayEnter_any ho7x1.rd) ?_
    rintro r w10 ⟨rfl, hX10⟩
    have hsz10 := hX10.size
    replace ho2x0 := ho2x0.ext hX10
    replace ho5x1 := ho5x1.ext hX10
    replace ho6x1 := ho6x1.ext hX10
    replace ho7x1 := ho7x1.ext hX10
    replace hV4 := hV4.ext hX10
    replace hV9 := hV9.ext hX10
    have hE10 := hE9.trans hX10
    refine RL.y rfl (y_mov (by conv => lhs; whnf)) ?_
    refine RL.y rfl (y_ext0 rfl) ?_
    refine RL.y rfl (y_ext1 rfl) ?_
    refine RL.y rfl (y_asg (v := .bool _) rfl) ?_
    refine RL.y rfl (y_asg (v := .int _ _) rfl) ?_
    refine RL.nil ?_
    refine Fin.next ?_
    refine CW.seq ?_
    refine CW.region ?_
    refine RL.y rfl (y_loads ag33 rfl (eqw (hV9)) rfl) ?_
    refine RL.y rfl (y_mov (v := .int _ _) rfl) ?_
    refine RL.y rfl (y_mov (v := .int _ _) rfl) ?_
    refine RL.call rfl (specMayEnter_any ho7x1.rd) ?_
    rintro r w11 ⟨rfl, hX11⟩
    have hsz11 := hX11.size
    replace ho2x0 := ho2x0.ext hX11
    replace ho5x1 := ho5x1.ext hX11
    replace ho6x1 := ho6x1.ext hX11
    replace ho7x1 := ho7x1.ext hX11
    replace hV4 := hV4.ext hX11
    replace hV9 := hV9.ext hX11
    have hE11 := hE10.trans hX11
    refine RL.y rfl (y_mov (by conv => lhs; whnf)) ?_
    refine RL.y rfl (y_ext0 rfl) ?_
    refine RL.y rfl (y_ext1 rfl) ?_
    refine RL.y rfl (y_asg (v := .bool _) rfl) ?_
    refine RL.y rfl (y_asg (v := .int _ _) rfl) ?_
    refine RL.nil ?_
    refine Fin.next ?_
    refine CW.seq ?_
    refine CW.region ?_
    refine RL.y rfl (y_mov (by conv => lhs; whnf)) ?_
    refine RL.call rfl (DrawDoorsFor_any (hs0.ext hE11)) ?_
    rintro r w12 ⟨v112, ps12, ds12, rs12, x12, rfl, ho12x1, _, hX12⟩
    have hsz12 := hX12.size
    replace ho2x0 := ho2x0.ext hX12
    replace ho5x1 := ho5x1.ext hX12
    replace ho6x1 := ho6x1.ext hX12
    replace ho7x1 := ho7x1.ext hX12
    replace hV4 := hV4.ext hX12
    replace hV9 := hV9.ext hX12
    have hE12 := hE11.trans hX12
    replace ho12x1 := RuP.of ho12x1
    obtain ⟨vp12x, vd12x, vr12x, rfl, _⟩ := id ho12x1
    refine RL.y rfl (y_mov (by conv => lhs; whnf)) ?_
    refine RL.y rfl (y_ext0 rfl) ?_
    refine RL.y rfl (y_ext1 rfl) ?_
    refine RL.alloc rfl ze33 (fun w13 hV13 hX13 => ?_)
    have hsz13 := hX13.size
    replace ho2x0 := ho2x0.ext hX13
    replace ho5x1 := ho5x1.ext hX13
    replace ho6x1 := ho6x1.ext hX13
    replace ho7x1 := ho7x1.ext hX13
    replace ho12x1 := ho12x1.ext hX13
    replace hV4 := hV4.ext hX13
    replace hV9 := hV9.ext hX13
    have hE13 := hE12.trans hX13
    have hlt13 := hV13.lt
    refine RL.stores ag33 (hV13) rfl rfl rfl rfl (ho12x1.one) (fun w14 hV14 hg14 => ?_)
    have hM14 := grown_mod (B := w12.heap.size) (U := w12.heap.size + 1) hg14 (fun k e => by simp only [Option.some.injEq] at e; omega)
    have hsz14 := hM14.size
    replace ho2x0 := ho2x0.mod hM14 (by omega)
    replace ho5x1 := ho5x1.mod hM14 (by omega)
    replace ho6x1 := ho6x1.mod hM14 (by omega)
    replace ho7x1 := ho7x1.mod hM14 (by omega)
    replace ho12x1 := ho12x1.mod hM14 (by omega)
    replace hV4 := hV4.mod hM14 (by omega)
    replace hV9 := hV9.mod hM14 (by omega)
    have hE14 := Ext.then_mod hE13 hM14 (by omega)
    refine RL.y rfl (y_asg (v := .int _ _) rfl) ?_
    refine RL.nil ?_
    refine Fin.next ?_
    refine CW.seq ?_
    refine CW.region ?_
    refine RL.y rfl (y_loads ag33 rfl (eqw (hV14)) rfl) ?_
    refine RL.y rfl (y_mov (v := .int _ _) rfl) ?_
    refine RL.call rfl (implDoorsFor_any ho12x1.rd) ?_
    rintro r w15 ⟨v115, rfl, ho15x1, hX15⟩
    have hsz15 := hX15.size
    replace ho2x0 := ho2x0.ext hX15
    replace ho5x1 := ho5x1.ext hX15
    replace ho6x1 := ho6x1.ext hX15
    replace ho7x1 := ho7x1.ext hX15
    replace ho12x1 := ho12x1.ext hX15
    replace hV4 := hV4.ext hX15
    replace hV9 := hV9.ext hX15
    replace hV14 := hV14.ext hX15
    have hE15 := hE14.trans hX15
    replace ho15x1 := OU.of ho15x1
    refine RL.y rfl (y_mov (by conv => lhs; whnf)) ?_
    refine RL.y rfl (y_ext0 rfl) ?_
    refine RL.y rfl (y_ext1 rfl) ?_
    refine RL.y rfl (y_asg (by conv => lhs; whnf)) ?_
    refine RL.y rfl (y_asg (v := .int _ _) rfl) ?_
    refine RL.nil ?_
    refine Fin.next ?_
    refine CW.seq ?_
    refine CW.region ?_
    refine RL.y rfl (y_loads ag33 rfl (eqw (hV14)) rfl) ?_
    refine RL.y rfl (y_mov (v := .int _ _) rfl) ?_
    refine RL.call rfl (specDoorsFor_any ho12x1.rd) ?_
    rintro r w16 ⟨v116, rfl, ho16x1, hX16⟩
    have hsz16 := hX16.size
    replace ho2x0 := ho2x0.ext hX16
    replace ho5x1 := ho5x1.ext hX16
    replace ho6x1 := ho6x1.ext hX16
    replace ho7x1 := ho7x1.ext hX16
    replace ho12x1 := ho12x1.ext hX16
    replace ho15x1 := ho15x1.ext hX16
    replace hV4 := hV4.ext hX16
    replace hV9 := hV9.ext hX16
    replace hV14 := hV14.ext hX16
    have hE16 := hE15.trans hX16
    replace ho16x1 := OU.of ho16x1
    refine RL.y rfl (y_mov (by conv => lhs; whnf)) ?_
    refine RL.y rfl (y_ext0 rfl) ?_
    refine RL.y rfl (y_ext1 rfl) ?_
    refine RL.y rfl (y_asg (by conv => lhs; whnf)) ?_
    refine RL.y rfl (y_asg (v := .int _ _) rfl) ?_
    refine RL.nil ?_
    refine Fin.next ?_
    refine CW.seq ?_
    refine CW.region ?_
    refine RL.y rfl (y_mov (by conv => lhs; whnf)) ?_
    refine RL.call rfl (DrawKeysFor_any (hs0.ext hE16)) ?_
    rintro r w17 ⟨v117, ps17, ds17, rs17, x17, rfl, ho17x1, _, hX17⟩
    have hsz17 := hX17.size
    replace ho2x0 := ho2x0.ext hX17
    replace ho5x1 := ho5x1.ext hX17
    replace ho6x1 := ho6x1.ext hX17
    replace ho7x1 := ho7x1.ext hX17
    replace ho12x1 := ho12x1.ext hX17
    replace ho15x1 := ho15x1.ext hX17
    replace ho16x1 := ho16x1.ext hX17
    replace hV4 := hV4.ext hX17
    replace hV9 := hV9.ext hX17
    replace hV14 := hV14.ext hX17
    have hE17 := hE16.trans hX17
    replace ho17x1 := RuP.of ho17x1
    obtain ⟨vp17x, vd17x, vr17x, rfl, _⟩ := id ho17x1
    refine RL.y rfl (y_mov (by conv => lhs; whnf)) ?_
    refine RL.y rfl (y_ext0 rfl) ?_
    refine RL.y rfl (y_ext1 rfl) ?_
    refine RL.alloc rfl ze33 (fun w18 hV18 hX18 => ?_)
    have hsz18 := hX18.size
    replace ho2x0 := ho2x0.ext hX18
    replace ho5x1 := ho5x1.ext hX18
    replace ho6x1 := ho6x1.ext hX18
    replace ho7x1 := ho7x1.ext hX18
    replace ho12x1 := ho12x1.ext hX18
    replace ho15x1 := ho15x1.ext hX18
    replace ho16x1 := ho16x1.ext hX18
    replace ho17x1 := ho17x1.ext hX18
    replace hV4 := hV4.ext hX18
    replace hV9 := hV9.ext hX18
    replace hV14 := hV14.ext hX18
    have hE18 := hE17.trans hX18
    have hlt18 := hV18.lt
    refine RL.stores ag33 (hV18) rfl rfl rfl rfl (ho17x1.one) (fun w19 hV19 hg19 => ?_)
    have hM19 := grown_mod (B := w17.heap.size) (U := w17.heap.size + 1) hg19 (fun k e => by simp only [Option.some.injEq] at e; omega)
    have hsz19 := hM19.size
    replace ho2x0 := ho2x0.mod hM19 (by omega)
    replace ho5x1 := ho5x1.mod hM19 (by omega)
    replace ho6x1 := ho6x1.mod hM19 (by omega)
    replace ho7x1 := ho7x1.mod hM19 (by omega)
    replace ho12x1 := ho12x1.mod hM19 (by omega)
    replace ho15x1 := ho15x1.mod hM19 (by omega)
    replace ho16x1 := ho16x1.mod hM19 (by omega)
    replace ho17x1 := ho17x1.mod hM19 (by omega)
    replace hV4 := hV4.mod hM19 (by omega)
    replace hV9 := hV9.mod hM19 (by omega)
    replace hV14 := hV14.mod hM19 (by omega)
    have hE19 := Ext.then_mod hE18 hM19 (by omega)
    refine RL.y rfl (y_asg (v := .int _ _) rfl) ?_
    refine RL.nil ?_
    refine Fin.next ?_
    refine CW.seq ?_
    refine CW.region ?_
    refine RL.y rfl (y_loads ag33 rfl (eqw (hV19)) rfl) ?_
    refine RL.y rfl (y_mov (v := .int _ _) rfl) ?_
    refine RL.call rfl (implKeysFor_any ho17x1.rd) ?_
    rintro r w20 ⟨v120, rfl, ho20x1, hX20⟩
    have hsz20 := hX20.size
    replace ho2x0 := ho2x0.ext hX20
    replace ho5x1 := ho5x1.ext hX20
    replace ho6x1 := ho6x1.ext hX20
    replace ho7x1 := ho7x1.ext hX20
    replace ho12x1 := ho12x1.ext hX20
    replace ho15x1 := ho15x1.ext hX20
    replace ho16x1 := ho16x1.ext hX20
    replace ho17x1 := ho17x1.ext hX20
    replace hV4 := hV4.ext hX20
    replace hV9 := hV9.ext hX20
    replace hV14 := hV14.ext hX20
    replace hV19 := hV19.ext hX20
    have hE20 := hE19.trans hX20
    replace ho20x1 := OU.of ho20x1
    refine RL.y rfl (y_mov (by conv => lhs; whnf)) ?_
    refine RL.y rfl (y_ext0 rfl) ?_
    refine RL.y rfl (y_ext1 rfl) ?_
    refine RL.y rfl (y_asg (by conv => lhs; whnf)) ?_
    refine RL.y rfl (y_asg (v := .int _ _) rfl) ?_
    refine RL.nil ?_
    refine Fin.next ?_
    refine CW.seq ?_
    refine CW.region ?_
    refine RL.y rfl (y_loads ag33 rfl (eqw (hV19)) rfl) ?_
    refine RL.y rfl (y_mov (v := .int _ _) rfl) ?_
    refine RL.call rfl (specKeysFor_any ho17x1.rd) ?_
    rintro r w21 ⟨v121, rfl, ho21x1, hX21⟩
    have hsz21 := hX21.size
    replace ho2x0 := ho2x0.ext hX21
    replace ho5x1 := ho5x1.ext hX21
    replace ho6x1 := ho6x1.ext hX21
    replace ho7x1 := ho7x1.ext hX21
    replace ho12x1 := ho12x1.ext hX21
    replace ho15x1 := ho15x1.ext hX21
    replace ho16x1 := ho16x1.ext hX21
    replace ho17x1 := ho17x1.ext hX21
    replace ho20x1 := ho20x1.ext hX21
    replace hV4 := hV4.ext hX21
    replace hV9 := hV9.ext hX21
    replace hV14 := hV14.ext hX21
    replace hV19 := hV19.ext hX21
    have hE21 := hE20.trans hX21
    replace ho21x1 := OU.of ho21x1
    refine RL.y rfl (y_mov (by conv => lhs; whnf)) ?_
    refine RL.y rfl (y_ext0 rfl) ?_
    refine RL.y rfl (y_ext1 rfl) ?_
    refine RL.y rfl (y_asg (by conv => lhs; whnf)) ?_
    refine RL.y rfl (y_asg (v := .int _ _) rfl) ?_
    refine RL.nil ?_
    refine Fin.next ?_
    refine CW.seq ?_
    refine CW.seq ?_
    refine CW.region ?_
    refine RL.y rfl (y_mov (v := .int _ _) rfl) ?_
    refine RL.y rfl (y_mov (v := .int _ _) rfl) ?_
    refine RL.y rfl (y_ne rfl rfl) ?_
    refine RL.y rfl (y_mov (v := .bool _) rfl) ?_
    refine RL.force (t := 102) false rfl rfl (by first | (simp; done) | exact decide_eq_false (by omega) | (simp [*]; done) | assumption) ?_
    refine RL.take (t := 102) rfl rfl rfl ?_
    refine RL.y rfl (y_mov (by conv => lhs; whnf)) ?_
    refine RL.take (t := 102) rfl rfl rfl ?_
    refine RL.y rfl (y_mov (by conv => lhs; whnf)) ?_
    refine RL.take (t := 102) rfl rfl rfl ?_
    refine RL.call rfl (likeLists_any ho5x1.rd ho6x1.rd) ?_
    rintro r w22 ⟨rfl, hX22⟩
    have hsz22 := hX22.size
    replace ho2x0 := ho2x0.ext hX22
    replace ho5x1 := ho5x1.ext hX22
    replace ho6x1 := ho6x1.ext hX22
    replace ho7x1 := ho7x1.ext hX22
    replace ho12x1 := ho12x1.ext hX22
    replace ho15x1 := ho15x1.ext hX22
    replace ho16x1 := ho16x1.ext hX22
    replace ho17x1 := ho17x1.ext hX22
    replace ho20x1 := ho20x1.ext hX22
    replace ho21x1 := ho21x1.ext hX22
    replace hV4 := hV4.ext hX22
    replace hV9 := hV9.ext hX22
    replace hV14 := hV14.ext hX22
    replace hV19 := hV19.ext hX22
    have hE22 := hE21.trans hX22
    refine RL.take (t := 102) rfl rfl rfl ?_
    refine RL.y rfl (y_not rfl) ?_
    refine RL.y rfl (y_pickF (v := .bool _) rfl rfl) ?_
    refine RL.y rfl (y_mov (v := .bool _) rfl) ?_
    refine RL.force (t := 108) false rfl rfl (by first | (simp; done) | exact decide_eq_false (by omega) | (simp [*]; done) | assumption) ?_
    refine RL.take (t := 108) rfl rfl rfl ?_
    refine RL.y rfl (y_mov (v := .int _ _) rfl) ?_
    refine RL.take (t := 108) rfl rfl rfl ?_
    refine RL.y rfl (y_mov (v := .int _ _) rfl) ?_
    refine RL.take (t := 108) rfl rfl rfl ?_
    refine RL.y rfl (y_ne rfl rfl) ?_
    refine RL.y rfl (y_pickF (v := .bool _) rfl rfl) ?_
    refine RL.y rfl (y_mov (v := .bool _) rfl) ?_
    refine RL.force (t := 113) false rfl rfl (by first | (simp; done) | exact decide_eq_false (by omega) | (simp [*]; done) | assumption) ?_
    refine RL.take (t := 113) rfl rfl rfl ?_
    refine RL.y rfl (y_mov (v := .bool _) rfl) ?_
    refine RL.take (t := 113) rfl rfl rfl ?_
    refine RL.y rfl (y_mov (v := .bool _) rfl) ?_
    refine RL.take (t := 113) rfl rfl rfl ?_
    refine RL.y rfl (y_bne Try.underlying4 rfl rfl) ?_
    refine RL.y rfl (y_pickF (v := .bool _) rfl rfl) ?_
    refine RL.y rfl (y_mov (v := .bool _) rfl) ?_
    refine RL.force (t := 118) false rfl rfl (by first | (simp; done) | exact decide_eq_false (by omega) | (simp [*]; done) | assumption) ?_
    refine RL.take (t := 118) rfl rfl rfl ?_
    refine RL.y rfl (y_mov (v := .int _ _) rfl) ?_
    refine RL.take (t := 118) rfl rfl rfl ?_
    refine RL.y rfl (y_mov (v := .int _ _) rfl) ?_
    refine RL.take (t := 118) rfl rfl rfl ?_
    refine RL.y rfl (y_ne rfl rfl) ?_
    refine RL.y rfl (y_pickF (v := .bool _) rfl rfl) ?_
    refine RL.y rfl (y_mov (v := .bool _) rfl) ?_
    refine RL.force (t := 123) false rfl rfl (by first | (simp; done) | exact decide_eq_false (by omega) | (simp [*]; done) | assumption) ?_
    refine RL.take (t := 123) rfl rfl rfl ?_
    refine RL.y rfl (y_mov (by conv => lhs; whnf)) ?_
    refine RL.take (t := 123) rfl rfl rfl ?_
    refine RL.y rfl (y_mov (by conv => lhs; whnf)) ?_
    refine RL.take (t := 123) rfl rfl rfl ?_
    refine RL.call rfl (likeInts_any ho15x1.sv ho16x1.sv) ?_
    rintro r w23 ⟨rfl, hX23⟩
    have hsz23 := hX23.size
    replace ho2x0 := ho2x0.ext hX23
    replace ho5x1 := ho5x1.ext hX23
    replace ho6x1 := ho6x1.ext hX23
    replace ho7x1 := ho7x1.ext hX23
    replace ho12x1 := ho12x1.ext hX23
    replace ho15x1 := ho15x1.ext hX23
    replace ho16x1 := ho16x1.ext hX23
    replace ho17x1 := ho17x1.ext hX23
    replace ho20x1 := ho20x1.ext hX23
    replace ho21x1 := ho21x1.ext hX23
    replace hV4 := hV4.ext hX23
    replace hV9 := hV9.ext hX23
    replace hV14 := hV14.ext hX23
    replace hV19 := hV19.ext hX23
    have hE23 := hE22.trans hX23
    refine RL.take (t := 123) rfl rfl rfl ?_
    refine RL.y rfl (y_not rfl) ?_
    refine RL.y rfl (y_pickF (v := .bool _) rfl rfl) ?_
    refine RL.y rfl (y_mov (v := .bool _) rfl) ?_
    refine RL.force (t := 129) false rfl rfl (by first | (simp; done) | exact decide_eq_false (by omega) | (simp [*]; done) | assumption) ?_
    refine RL.take (t := 129) rfl rfl rfl ?_
    refine RL.y rfl (y_mov (v := .int _ _) rfl) ?_
    refine RL.take (t := 129) rfl rfl rfl ?_
    refine RL.y rfl (y_mov (v := .int _ _) rfl) ?_
    refine RL.take (t := 129) rfl rfl rfl ?_
    refine RL.y rfl (y_ne rfl rfl) ?_
    refine RL.y rfl (y_pickF (v := .bool _) rfl rfl) ?_
    refine RL.y rfl (y_mov (v := .bool _) rfl) ?_
    refine RL.force (t := 134) false rfl rfl (by first | (simp; done) | exact decide_eq_false (by omega) | (simp [*]; done) | assumption) ?_
    refine RL.take (t := 134) rfl rfl rfl ?_
    refine RL.y rfl (y_mov (by conv => lhs; whnf)) ?_
    refine RL.take (t := 134) rfl rfl rfl ?_
    refine RL.y rfl (y_mov (by conv => lhs; whnf)) ?_
    refine RL.take (t := 134) rfl rfl rfl ?_
    refine RL.call rfl (likeInts_any ho20x1.sv ho21x1.sv) ?_
    rintro r w24 ⟨rfl, hX24⟩
    have hsz24 := hX24.size
    replace ho2x0 := ho2x0.ext hX24
    replace ho5x1 := ho5x1.ext hX24
    replace ho6x1 := ho6x1.ext hX24
    replace ho7x1 := ho7x1.ext hX24
    replace ho12x1 := ho12x1.ext hX24
    replace ho15x1 := ho15x1.ext hX24
    replace ho16x1 := ho16x1.ext hX24
    replace ho17x1 := ho17x1.ext hX24
    replace ho20x1 := ho20x1.ext hX24
    replace ho21x1 := ho21x1.ext hX24
    replace hV4 := hV4.ext hX24
    replace hV9 := hV9.ext hX24
    replace hV14 := hV14.ext hX24
    replace hV19 := hV19.ext hX24
    have hE24 := hE23.trans hX24
    refine RL.take (t := 134) rfl rfl rfl ?_
    refine RL.y rfl (y_not rfl) ?_
    refine RL.y rfl (y_pickF (v := .bool _) rfl rfl) ?_
    refine RL.y rfl (y_mov (v := .bool _) rfl) ?_
    refine RL.force (t := 140) false rfl rfl (by first | (simp; done) | exact decide_eq_false (by omega) | (simp [*]; done) | assumption) ?_
    refine RL.take (t := 140) rfl rfl rfl ?_
    refine RL.y rfl (y_loads ag33 rfl (eqw (hV4)) rfl) ?_
    refine RL.take (t := 140) rfl rfl rfl ?_
    refine RL.call rfl (implIsPlan_any ho2x0.rd) ?_
    rintro r w25 ⟨rfl, hX25⟩
    have hsz25 := hX25.size
    replace ho2x0 := ho2x0.ext hX25
    replace ho5x1 := ho5x1.ext hX25
    replace ho6x1 := ho6x1.ext hX25
    replace ho7x1 := ho7x1.ext hX25
    replace ho12x1 := ho12x1.ext hX25
    replace ho15x1 := ho15x1.ext hX25
    replace ho16x1 := ho16x1.ext hX25
    replace ho17x1 := ho17x1.ext hX25
    replace ho20x1 := ho20x1.ext hX25
    replace ho21x1 := ho21x1.ext hX25
    replace hV4 := hV4.ext hX25
    replace hV9 := hV9.ext hX25
    replace hV14 := hV14.ext hX25
    replace hV19 := hV19.ext hX25
    have hE25 := hE24.trans hX25
    refine RL.take (t := 140) rfl rfl rfl ?_
    refine RL.y rfl (y_mov (v := .int _ _) rfl) ?_
    refine RL.take (t := 140) rfl rfl rfl ?_
    refine RL.y rfl (y_eq rfl rfl) ?_
    refine RL.take (t := 140) rfl rfl rfl ?_
    refine RL.y rfl (y_bne Try.underlying4 rfl rfl) ?_
    refine RL.y rfl (y_pickF (v := .bool _) rfl rfl) ?_
    refine RL.nil ?_
    refine Fin.next ?_
    refine CW.condF rfl ((by simp [plC_zero])) ?_
    refine CW.skip ?_
    refine Fin.next ?_
    refine CW.seq ?_
    refine CW.seq ?_
    refine CW.region ?_
    refine RL.y rfl (y_mov (v := .int _ _) rfl) ?_
    refine RL.y rfl (y_ne rfl rfl) ?_
    refine RL.nil ?_
    refine Fin.next ?_
    refine CW.cond rfl rfl (fun h0 => ?_) (fun h0 => ?_)
    · with_reducible first | (replace h0 := deNF h0) | (replace h0 := of_decide_eq_true h0) | (replace h0 := of_decide_eq_false h0) | (replace h0 := deNT h0) | (replace h0 := deNN h0) | (replace h0 := bnT h0) | (replace h0 := bnF h0) | skip
      refine CW.seq ?_
      refine CW.region ?_
      refine RL.y rfl (y_asg rfl) ?_
      refine RL.nil ?_
      refine Fin.next ?_
      refine CW.ret ?_
      refine Fin.thenRet ?_
      refine Fin.ret1 rfl (by conv => lhs; whnf) ?_
      exact ⟨_, rfl, rfl, hE25⟩
    · with_reducible first | (replace h0 := deNF h0) | (replace h0 := of_decide_eq_true h0) | (replace h0 := of_decide_eq_false h0) | (replace h0 := deNT h0) | (replace h0 := deNN h0) | (replace h0 := bnT h0) | (replace h0 := bnF h0) | skip
      refine CW.skip ?_
      refine Fin.next ?_
      refine CW.seq ?_
      refine CW.region ?_
      refine RL.y rfl (y_loads ag33 rfl (eqw (hV9)) rfl) ?_
      refine RL.y rfl (y_mov (v := .int _ _) rfl) ?_
      refine RL.call rfl (implDoorsFor_any ho7x1.rd) ?_
      rintro r w26 ⟨v126, rfl, ho26x1, hX26⟩
      have hsz26 := hX26.size
      replace ho2x0 := ho2x0.ext hX26
      replace ho5x1 := ho5x1.ext hX26
      replace ho6x1 := ho6x1.ext hX26
      replace ho7x1 := ho7x1.ext hX26
      replace ho12x1 := ho12x1.ext hX26
      replace ho15x1 := ho15x1.ext hX26
      replace ho16x1 := ho16x1.ext hX26
      replace ho17x1 := ho17x1.ext hX26
      replace ho20x1 := ho20x1.ext hX26
      replace ho21x1 := ho21x1.ext hX26
      replace hV4 := hV4.ext hX26
      replace hV9 := hV9.ext hX26
      replace hV14 := hV14.ext hX26
      replace hV19 := hV19.ext hX26
      have hE26 := hE25.trans hX26
      replace ho26x1 := OU.of ho26x1
      refine RL.y rfl (y_mov (by conv => lhs; whnf)) ?_
      refine RL.y rfl (y_ext0 rfl) ?_
      refine RL.y rfl (y_ext1 rfl) ?_
      refine RL.y rfl (y_asg (by conv => lhs; whnf)) ?_
      refine RL.y rfl (y_asg (v := .int _ _) rfl) ?_
      refine RL.nil ?_
      refine Fin.next ?_
      refine CW.seq ?_
      refine CW.region ?_
      refine RL.y rfl (y_loads ag33 rfl (eqw (hV9)) rfl) ?_
      refine RL.y rfl (y_mov (v := .int _ _) rfl) ?_
      refine RL.call rfl (implKeysFor_any ho7x1.rd) ?_
      rintro r w27 ⟨v127, rfl, ho27x1, hX27⟩
      have hsz27 := hX27.size
      replace ho2x0 := ho2x0.ext hX27
      replace ho5x1 := ho5x1.ext hX27
      replace ho6x1 := ho6x1.ext hX27
      replace ho7x1 := ho7x1.ext hX27
      replace ho12x1 := ho12x1.ext hX27
      replace ho15x1 := ho15x1.ext hX27
      replace ho16x1 := ho16x1.ext hX27
      replace ho17x1 := ho17x1.ext hX27
      replace ho20x1 := ho20x1.ext hX27
      replace ho21x1 := ho21x1.ext hX27
      replace ho26x1 := ho26x1.ext hX27
      replace hV4 := hV4.ext hX27
      replace hV9 := hV9.ext hX27
      replace hV14 := hV14.ext hX27
      replace hV19 := hV19.ext hX27
      have hE27 := hE26.trans hX27
      replace ho27x1 := OU.of ho27x1
      refine RL.y rfl (y_mov (by conv => lhs; whnf)) ?_
      refine RL.y rfl (y_ext0 rfl) ?_
      refine RL.y rfl (y_ext1 rfl) ?_
      refine RL.y rfl (y_asg (by conv => lhs; whnf)) ?_
      refine RL.y rfl (y_asg (v := .int _ _) rfl) ?_
      refine RL.nil ?_
      refine Fin.next ?_
      refine CW.seq ?_
      refine CW.region ?_
      refine RL.y rfl (y_mov (v := .int _ _) rfl) ?_
      refine RL.y rfl (y_eq rfl rfl) ?_
      refine RL.y rfl (y_mov (v := .bool _) rfl) ?_
      refine RL.force (t := 163) true rfl rfl ((decide_eq_true (acc_facts h0).1)) ?_
      refine RL.take (t := 163) rfl rfl rfl ?_
      refine RL.y rfl (y_mov (v := .int _ _) rfl) ?_
      refine RL.take (t := 163) rfl rfl rfl ?_
      refine RL.y rfl (y_eq rfl rfl) ?_
      refine RL.y rfl (y_pickT (v := .bool _) rfl rfl) ?_
      refine RL.y rfl (y_mov (v := .bool _) rfl) ?_
      refine RL.force (t := 167) true rfl rfl ((by simp [(acc_facts h0).2.1])) ?_
      refine RL.take (t := 167) rfl rfl rfl ?_
      refine RL.y rfl (y_mov (by conv => lhs; whnf)) ?_
      refine RL.take (t := 167) rfl rfl rfl ?_
      refine RL.y rfl (y_mov (v := .int _ _) rfl) ?_
      refine RL.take (t := 167) rfl rfl rfl ?_
      refine RL.call rfl (hasInt_any ho26x1.sv) ?_
      rintro r w28 ⟨rfl, rfl⟩
      refine RL.take (t := 167) rfl rfl rfl ?_
      refine RL.y rfl (y_mov (v := .bool _) rfl) ?_
      refine RL.take (t := 167) rfl rfl rfl ?_
      refine RL.y rfl (y_beq Try.underlying4 rfl rfl) ?_
      refine RL.y rfl (y_pickT (v := .bool _) rfl rfl) ?_
      refine RL.y rfl (y_mov (v := .bool _) rfl) ?_
      refine RL.force (t := 174) true rfl rfl ((by simp [(acc_facts h0).2.2.1])) ?_
      refine RL.take (t := 174) rfl rfl rfl ?_
      refine RL.y rfl (y_mov (by conv => lhs; whnf)) ?_
      refine RL.take (t := 174) rfl rfl rfl ?_
      refine RL.y rfl (y_mov (v := .int _ _) rfl) ?_
      refine RL.take (t := 174) rfl rfl rfl ?_
      refine RL.call rfl (hasInt_any ho27x1.sv) ?_
      rintro r w29 ⟨rfl, rfl⟩
      refine RL.take (t := 174) rfl rfl rfl ?_
      refine RL.y rfl (y_mov (v := .bool _) rfl) ?_
      refine RL.take (t := 174) rfl rfl rfl ?_
      refine RL.y rfl (y_beq Try.underlying4 rfl rfl) ?_
      refine RL.y rfl (y_pickT (v := .bool _) rfl rfl) ?_
      refine RL.y rfl (y_asg (v := .bool _) rfl) ?_
      refine RL.nil ?_
      refine Fin.next ?_
      refine CW.ret ?_
      refine Fin.ret1 rfl (by conv => lhs; whnf) ?_
      exact ⟨_, rfl, by simp [(acc_facts h0).2.2.2], hE27⟩
namespace fnAccess
open Go.ChangeShapes Go.WideShapes Go.ChangeAt Go.RowKit
set_option linter.unusedVariables false
theorem own : ownKnob Try.prog.godebug = none := by kernel_rfl
theorem laidOut : laidOutB Try.prog = true := by kernel_rfl
set_option maxRecDepth 100000 in
theorem lifted (os : Os) (started : os.Started) (H : Type) (enc : TypeId × Value → H) :
    ReturnsInHanded {} Try.checked os 14 .any (Rows.fnAccessSpec.pre6 enc Try.prog Try.f14 Rows.fnAccessRow.domain false) (Rows.fnAccessSpec.post enc Try.prog Try.f14 false true false false) := by
  refine returnsInHanded_of_change (C := Try.checked) own started (by kernel_rfl) Try.func14
    (ChangeSpec.witness6 (enc := enc) (C := Try.checked) false ⟨#[], #[.slice none 0 0], []⟩ 8 (by kernel_rfl) (by kernel_rfl) (by kernel_rfl) (by kernel_rfl)) ?_
  intro W base args ds gs before hval0 hW hcnd _
  have hval : ∀ (j : Nat) t v, Try.f14.params[j]? = some t → args[j]? = some v → Value.okWide Try.prog W .any base t v := hval0
  have hW' := hW
  obtain ⟨p, q, hA0, hV, rfl, hfz, hnd⟩ := hW
  have hA : DataW.TrodAll enc Try.prog W 0 (fun _ => true) true Try.f14.params.toList args.toList ds p := hA0
  rw [Try.params14] at hA hval
  have hkeep := hA
  obtain ⟨v0, vs0, d0, ds0, p0, q0, hargs, rfl, rfl, h0, r0⟩ := trodAll_cons hA
  obtain ⟨rfl, rfl, rfl⟩ := trodAll_nil r0
  obtain rfl : args = #[v0] := by cases args; simp_all
  obtain ⟨rfl, rfl⟩ := trodVars_none hV
  obtain ⟨l0, hs0⟩ := open_SU8 Try.underlying55 Try.underlying5 (by kernel_rfl) (hval 0 55 v0 rfl rfl) h0
  refine (lawAccess W v0 l0 hs0).calls.mono fun e W' ⟨r, he, hr, hg⟩ => ?_
  subst hr
  subst he
  exact ⟨_, rfl, _, _, _, [] ++ [], _, [], hW', trodAll_cons_mk (shut_bool Try.underlying4 _) trodAll_mk0, trodAll_ext laidOut (by kernel_rfl) hkeep hg (fun x hx => hW'.lt x (List.mem_append_left _ hx)), rfl, hg.frame _, fun h => by cases h⟩
theorem over : Rows.fnAccessRow.holds Try.pinned (OpenSpec.ofChange Rows.fnAccessSpec) :=
  OpenClaim.holds_of_wide 14 Try.f14 rfl rfl rfl rfl rfl rfl rfl ⟨rfl, rfl, rfl, rfl, rfl⟩ rfl rfl rfl rfl rfl (by kernel_rfl) Try.func14 (by kernel_rfl)
    (of_decide_eq_true (by kernel_rfl)) (by unfold Func.isWrapper; first | (rw [if_pos (by decide +kernel)]; kernel_rfl) | (rw [if_neg (by decide +kernel)]; exact ⟨rfl, rfl⟩))
    (fun os started H enc _ => lifted os started H enc)
theorem proved : Rows.FnAccessSaid := over
end fnAccess
#print axioms fnAccess.proved
end Go.Proofs.Ytkkeipogkjlneaa
