/-
  The places of a set's depths are free, a key is near to itself; the program's answers are the reference's. No condition.
-/
import Derived.Test.YtaepdknmagaokaaFLawW
import Derived.Test.YtaepdknmagaokaaLift6
import Derived.Test.YtaepdknmagaokaaRows
namespace Go.Proofs.Ytaepdknmagaokaa
open B Go.RowKit

set_option maxRecDepth 8000 in
theorem lawPlaces (w : World) (v0 : Value) (l0 : List UInt8) (hs0 : SV w v0 (byts l0)) :
    Does Try.prog 12 #[v0] w (fun r w' => r = .bool true ∧ Ext w w') := by
  refine enter Try.func12 rfl 170 Try.ntmps12 rfl (by kernel_rfl) ?_
  refine CW.seq ?_
  refine CW.region ?_
  refine RL.y rfl (y_asg rfl) ?_
  refine RL.nil ?_
  refine Fin.next ?_
  refine CW.seq ?_
  refine CW.seq ?_
  refine CW.region ?_
  refine RL.y rfl (y_mov (by conv => lhs; whnf)) ?_
  refine RL.call rfl (big_any (hs0.ext (Ext.refl w))) ?_
  rintro r w1 ⟨rfl, rfl⟩
  refine RL.nil ?_
  refine Fin.next ?_
  refine CW.cond rfl rfl (fun hbig => ?_) (fun hbig => ?_)
  · with_reducible first | (replace hbig := deNF hbig) | (replace hbig := of_decide_eq_true hbig) | (replace hbig := of_decide_eq_false hbig) | (replace hbig := deNT hbig) | (replace hbig := deNN hbig) | (replace hbig := bnT hbig) | (replace hbig := bnF hbig) | skip
    refine CW.seq ?_
    refine CW.region ?_
    refine RL.y rfl (y_asg rfl) ?_
    refine RL.nil ?_
    refine Fin.next ?_
    refine CW.ret ?_
    refine Fin.thenRet ?_
    refine Fin.ret1 rfl (by conv => lhs; whnf) ?_
    exact ⟨_, rfl, rfl, (Ext.refl w)⟩
  · with_reducible first | (replace hbig := deNF hbig) | (replace hbig := of_decide_eq_true hbig) | (replace hbig := of_decide_eq_false hbig) | (replace hbig := deNT hbig) | (replace hbig := deNN hbig) | (replace hbig := bnT hbig) | (replace hbig := bnF hbig) | skip
    refine CW.skip ?_
    refine Fin.next ?_
    refine CW.seq ?_
    refine CW.region ?_
    refine RL.y rfl (y_mov (by conv => lhs; whnf)) ?_
    refine RL.call rfl (DrawFreePlaces_any (hs0.ext (Ext.refl w))) ?_
    rintro r w2 ⟨q2, v12, ss2, a2, t2, rfl, _, ho2x2, _, hX2⟩
    have hsz2 := hX2.size
    have hE2 := hX2
    replace ho2x2 := RuL.of ho2x2
    obtain ⟨vs2x, rfl, _⟩ := id ho2x2
    refine RL.y rfl (y_mov (by conv => lhs; whnf)) ?_
    refine RL.y rfl (y_ext0 rfl) ?_
    refine RL.y rfl (y_ext1 rfl) ?_
    refine RL.y rfl (y_ext2 rfl) ?_
    refine RL.y rfl (y_ext3 rfl) ?_
    refine RL.alloc rfl ze25 (fun w3 hV3 hX3 => ?_)
    have hsz3 := hX3.size
    replace ho2x2 := ho2x2.ext hX3
    have hE3 := hE2.trans hX3
    have hlt3 := hV3.lt
    refine RL.alloc rfl ze28 (fun w4 hV4 hX4 => ?_)
    have hsz4 := hX4.size
    replace ho2x2 := ho2x2.ext hX4
    replace hV3 := hV3.ext hX4
    have hE4 := hE3.trans hX4
    have hlt4 := hV4.lt
    refine RL.stores ag25 (hV3) rfl rfl rfl rfl (rfl) (fun w5 hV5 hg5 => ?_)
    have hM5 := grown_mod (B := w2.heap.size) (U := w2.heap.size + 1) hg5 (fun k e => by simp only [Option.some.injEq] at e; omega)
    have hsz5 := hM5.size
    replace ho2x2 := ho2x2.mod hM5 (by omega)
    replace hV4 := hV4.mod hM5 (by omega)
    have hE5 := Ext.then_mod hE4 hM5 (by omega)
    refine RL.stores ag28 (hV4) rfl rfl rfl rfl (ho2x2.one) (fun w6 hV6 hg6 => ?_)
    have hM6 := grown_mod (B := w3.heap.size) (U := w3.heap.size + 1) hg6 (fun k e => by simp only [Option.some.injEq] at e; omega)
    have hsz6 := hM6.size
    replace ho2x2 := ho2x2.mod hM6 (by omega)
    replace hV5 := hV5.mod hM6 (by omega)
    have hE6 := Ext.then_mod hE5 hM6 (by omega)
    refine RL.y rfl (y_asg (v := .int _ _) rfl) ?_
    refine RL.y rfl (y_asg (v := .int _ _) rfl) ?_
    refine RL.nil ?_
    refine Fin.next ?_
    refine CW.seq ?_
    refine CW.region ?_
    refine RL.y rfl (y_loads ag25 rfl (eqw (hV5)) rfl) ?_
    refine RL.y rfl (y_loads ag28 rfl (eqw (hV6)) rfl) ?_
    refine RL.y rfl (y_mov (v := .int _ _) rfl) ?_
    refine RL.y rfl (y_mov (v := .int _ _) rfl) ?_
    refine RL.call rfl (implFreePlaces_any ho2x2.rd) ?_
    rintro r w7 ⟨v17, rfl, ho7x1, hX7⟩
    have hsz7 := hX7.size
    replace ho2x2 := ho2x2.ext hX7
    replace hV5 := hV5.ext hX7
    replace hV6 := hV6.ext hX7
    have hE7 := hE6.trans hX7
    replace ho7x1 := OU.of ho7x1
    refine RL.y rfl (y_mov (by conv => lhs; whnf)) ?_
    refine RL.y rfl (y_ext0 rfl) ?_
    refine RL.y rfl (y_ext1 rfl) ?_
    refine RL.y rfl (y_asg (by conv => lhs; whnf)) ?_
    refine RL.y rfl (y_asg (v := .int _ _) rfl) ?_
    refine RL.nil ?_
    refine Fin.next ?_
    refine CW.seq ?_
    refine CW.region ?_
    refine RL.y rfl (y_loads ag25 rfl (eqw (hV5)) rfl) ?_
    refine RL.y rfl (y_loads ag28 rfl (eqw (hV6)) rfl) ?_
    refine RL.y rfl (y_mov (v := .int _ _) rfl) ?_
    refine RL.y rfl (y_mov (v := .int _ _) rfl) ?_
    refine RL.call rfl (specFreePlaces_any ho2x2.rd) ?_
    rintro r w8 ⟨v18, rfl, ho8x1, hX8⟩
    have hsz8 := hX8.size
    replace ho2x2 := ho2x2.ext hX8
    replace ho7x1 := ho7x1.ext hX8
    replace hV5 := hV5.ext hX8
    replace hV6 := hV6.ext hX8
    have hE8 := hE7.trans hX8
    replace ho8x1 := OU.of ho8x1
    refine RL.y rfl (y_mov (by conv => lhs; whnf)) ?_
    refine RL.y rfl (y_ext0 rfl) ?_
    refine RL.y rfl (y_ext1 rfl) ?_
    refine RL.y rfl (y_asg (by conv => lhs; whnf)) ?_
    refine RL.y rfl (y_asg (v := .int _ _) rfl) ?_
    refine RL.nil ?_
    refine Fin.next ?_
    refine CW.seq ?_
    refine CW.region ?_
    refine RL.y rfl (y_mov (by conv => lhs; whnf)) ?_
    refine RL.call rfl (DrawWornNeighbours_any (hs0.ext hE8)) ?_
    rintro r w9 ⟨q9, v29, xs9, a9, t9, rfl, _, ho9x2, _, _, hX9⟩
    have hsz9 := hX9.size
    replace ho2x2 := ho2x2.ext hX9
    replace ho7x1 := ho7x1.ext hX9
    replace ho8x1 := ho8x1.ext hX9
    replace hV5 := hV5.ext hX9
    replace hV6 := hV6.ext hX9
    have hE9 := hE8.trans hX9
    replace ho9x2 := RuI.of ho9x2
    refine RL.y rfl (y_mov (by conv => lhs; whnf)) ?_
    refine RL.y rfl (y_ext0 rfl) ?_
    refine RL.y rfl (y_ext1 rfl) ?_
    refine RL.y rfl (y_ext2 rfl) ?_
    refine RL.y rfl (y_ext3 rfl) ?_
    refine RL.alloc rfl ze25 (fun w10 hV10 hX10 => ?_)
    have hsz10 := hX10.size
    replace ho2x2 := ho2x2.ext hX10
    replace ho7x1 := ho7x1.ext hX10
    replace ho8x1 := ho8x1.ext hX10
    replace ho9x2 := ho9x2.ext hX10
    replace hV5 := hV5.ext hX10
    replace hV6 := hV6.ext hX10
    have hE10 := hE9.trans hX10
    have hlt10 := hV10.lt
    refine RL.stores ag25 (hV10) rfl rfl rfl rfl (rfl) (fun w11 hV11 hg11 => ?_)
    have hM11 := grown_mod (B := w9.heap.size) (U := w9.heap.size + 1) hg11 (fun k e => by simp only [Option.some.injEq] at e; omega)
    have hsz11 := hM11.size
    replace ho2x2 := ho2x2.mod hM11 (by omega)
    replace ho7x1 := ho7x1.mod hM11 (by omega)
    replace ho8x1 := ho8x1.mod hM11 (by omega)
    replace ho9x2 := ho9x2.mod hM11 (by omega)
    replace hV5 := hV5.mod hM11 (by omega)
    replace hV6 := hV6.mod hM11 (by omega)
    have hE11 := Ext.then_mod hE10 hM11 (by omega)
    refine RL.y rfl (y_asg (by conv => lhs; whnf)) ?_
    refine RL.y rfl (y_asg (v := .int _ _) rfl) ?_
    refine RL.y rfl (y_asg (v := .int _ _) rfl) ?_
    refine RL.nil ?_
    refine Fin.next ?_
    refine CW.seq ?_
    refine CW.region ?_
    refine RL.y rfl (y_loads ag25 rfl (eqw (hV11)) rfl) ?_
    refine RL.y rfl (y_mov (by conv => lhs; whnf)) ?_
    refine RL.y rfl (y_mov (v := .int _ _) rfl) ?_
    refine RL.y rfl (y_mov (v := .int _ _) rfl) ?_
    refine RL.call rfl (implWornNb_any ho9x2.rd) ?_
    rintro r w12 ⟨rfl, hX12⟩
    have hsz12 := hX12.size
    replace ho2x2 := ho2x2.ext hX12
    replace ho7x1 := ho7x1.ext hX12
    replace ho8x1 := ho8x1.ext hX12
    replace ho9x2 := ho9x2.ext hX12
    replace hV5 := hV5.ext hX12
    replace hV6 := hV6.ext hX12
    replace hV11 := hV11.ext hX12
    have hE12 := hE11.trans hX12
    refine RL.y rfl (y_mov (by conv => lhs; whnf)) ?_
    refine RL.y rfl (y_ext0 rfl) ?_
    refine RL.y rfl (y_ext1 rfl) ?_
    refine RL.y rfl (y_asg (v := .int _ _) rfl) ?_
    refine RL.y rfl (y_asg (v := .int _ _) rfl) ?_
    refine RL.nil ?_
    refine Fin.next ?_
    refine CW.seq ?_
    refine CW.region ?_
    refine RL.y rfl (y_loads ag25 rfl (eqw (hV11)) rfl) ?_
    refine RL.y rfl (y_mov (by conv => lhs; whnf)) ?_
    refine RL.y rfl (y_mov (v := .int _ _) rfl) ?_
    refine RL.y rfl (y_mov (v := .int _ _) rfl) ?_
    refine RL.call rfl (specWornNb_any ho9x2.rd) ?_
    rintro r w13 ⟨rfl, hX13⟩
    have hsz13 := hX13.size
    replace ho2x2 := ho2x2.ext hX13
    replace ho7x1 := ho7x1.ext hX13
    replace ho8x1 := ho8x1.ext hX13
    replace ho9x2 := ho9x2.ext hX13
    replace hV5 := hV5.ext hX13
    replace hV6 := hV6.ext hX13
    replace hV11 := hV11.ext hX13
    have hE13 := hE12.trans hX13
    refine RL.y rfl (y_mov (by conv => lhs; whnf)) ?_
    refine RL.y rfl (y_ext0 rfl) ?_
    refine RL.y rfl (y_ext1 rfl) ?_
    refine RL.y rfl (y_asg (v := .int _ _) rfl) ?_
    refine RL.y rfl (y_asg (v := .int _ _) rfl) ?_
    refine RL.nil ?_
    refine Fin.next ?_
    refine CW.seq ?_
    refine CW.region ?_
    refine RL.y rfl (y_mov (by conv => lhs; whnf)) ?_
    refine RL.call rfl (DrawWornLock_any (hs0.ext hE13)) ?_
    rintro r w14 ⟨q14, v114, ss14, a14, t14, rfl, _, ho14x2, _, hX14⟩
    have hsz14 := hX14.size
    replace ho2x2 := ho2x2.ext hX14
    replace ho7x1 := ho7x1.ext hX14
    replace ho8x1 := ho8x1.ext hX14
    replace ho9x2 := ho9x2.ext hX14
    replace hV5 := hV5.ext hX14
    replace hV6 := hV6.ext hX14
    replace hV11 := hV11.ext hX14
    have hE14 := hE13.trans hX14
    replace ho14x2 := RuL.of ho14x2
    obtain ⟨vs14x, rfl, _⟩ := id ho14x2
    refine RL.y rfl (y_mov (by conv => lhs; whnf)) ?_
    refine RL.y rfl (y_ext0 rfl) ?_
    refine RL.y rfl (y_ext1 rfl) ?_
    refine RL.y rfl (y_ext2 rfl) ?_
    refine RL.y rfl (y_ext3 rfl) ?_
    refine RL.alloc rfl ze25 (fun w15 hV15 hX15 => ?_)
    have hsz15 := hX15.size
    replace ho2x2 := ho2x2.ext hX15
    replace ho7x1 := ho7x1.ext hX15
    replace ho8x1 := ho8x1.ext hX15
    replace ho9x2 := ho9x2.ext hX15
    replace ho14x2 := ho14x2.ext hX15
    replace hV5 := hV5.ext hX15
    replace hV6 := hV6.ext hX15
    replace hV11 := hV11.ext hX15
    have hE15 := hE14.trans hX15
    have hlt15 := hV15.lt
    refine RL.alloc rfl ze28 (fun w16 hV16 hX16 => ?_)
    have hsz16 := hX16.size
    replace ho2x2 := ho2x2.ext hX16
    replace ho7x1 := ho7x1.ext hX16
    replace ho8x1 := ho8x1.ext hX16
    replace ho9x2 := ho9x2.ext hX16
    replace ho14x2 := ho14x2.ext hX16
    replace hV5 := hV5.ext hX16
    replace hV6 := hV6.ext hX16
    replace hV11 := hV11.ext hX16
    replace hV15 := hV15.ext hX16
    have hE16 := hE15.trans hX16
    have hlt16 := hV16.lt
    refine RL.stores ag25 (hV15) rfl rfl rfl rfl (rfl) (fun w17 hV17 hg17 => ?_)
    have hM17 := grown_mod (B := w14.heap.size) (U := w14.heap.size + 1) hg17 (fun k e => by simp only [Option.some.injEq] at e; omega)
    have hsz17 := hM17.size
    replace ho2x2 := ho2x2.mod hM17 (by omega)
    replace ho7x1 := ho7x1.mod hM17 (by omega)
    replace ho8x1 := ho8x1.mod hM17 (by omega)
    replace ho9x2 := ho9x2.mod hM17 (by omega)
    replace ho14x2 := ho14x2.mod hM17 (by omega)
    replace hV5 := hV5.mod hM17 (by omega)
    replace hV6 := hV6.mod hM17 (by omega)
    replace hV11 := hV11.mod hM17 (by omega)
    replace hV16 := hV16.mod hM17 (by omega)
    have hE17 := Ext.then_mod hE16 hM17 (by omega)
    refine RL.stores ag28 (hV16) rfl rfl rfl rfl (ho14x2.one) (fun w18 hV18 hg18 => ?_)
    have hM18 := grown_mod (B := w15.heap.size) (U := w15.heap.size + 1) hg18 (fun k e => by simp only [Option.some.injEq] at e; omega)
    have hsz18 := hM18.size
    replace ho2x2 := ho2x2.mod hM18 (by omega)
    replace ho7x1 := ho7x1.mod hM18 (by omega)
    replace ho8x1 := ho8x1.mod hM18 (by omega)
    replace ho9x2 := ho9x2.mod hM18 (by omega)
    replace ho14x2 := ho14x2.mod hM18 (by omega)
    replace hV5 := hV5.mod hM18 (by omega)
    replace hV6 := hV6.mod hM18 (by omega)
    replace hV11 := hV11.mod hM18 (by omega)
    replace hV17 := hV17.mod hM18 (by omega)
    have hE18 := Ext.then_mod hE17 hM18 (by omega)
    refine RL.y rfl (y_asg (v := .int _ _) rfl) ?_
    refine RL.y rfl (y_asg (v := .int _ _) rfl) ?_
    refine RL.nil ?_
    refine Fin.next ?_
    refine CW.seq ?_
    refine CW.region ?_
    refine RL.y rfl (y_loads ag25 rfl (eqw (hV17)) rfl) ?_
    refine RL.y rfl (y_loads ag28 rfl (eqw (hV18)) rfl) ?_
    refine RL.y rfl (y_mov (v := .int _ _) rfl) ?_
    refine RL.y rfl (y_mov (v := .int _ _) rfl) ?_
    refine RL.call rfl (implWornLock_any ho14x2.rd) ?_
    rintro r w19 ⟨v119, rfl, ho19x1, hX19⟩
    have hsz19 := hX19.size
    replace ho2x2 := ho2x2.ext hX19
    replace ho7x1 := ho7x1.ext hX19
    replace ho8x1 := ho8x1.ext hX19
    replace ho9x2 := ho9x2.ext hX19
    replace ho14x2 := ho14x2.ext hX19
    replace hV5 := hV5.ext hX19
    replace hV6 := hV6.ext hX19
    replace hV11 := hV11.ext hX19
    replace hV17 := hV17.ext hX19
    replace hV18 := hV18.ext hX19
    have hE19 := hE18.trans hX19
    replace ho19x1 := OwL.of ho19x1
    obtain ⟨vs19x, rfl, _⟩ := id ho19x1
    refine RL.y rfl (y_mov (by conv => lhs; whnf)) ?_
    refine RL.y rfl (y_ext0 rfl) ?_
    refine RL.y rfl (y_ext1 rfl) ?_
    refine RL.alloc rfl ze28 (fun w20 hV20 hX20 => ?_)
    have hsz20 := hX20.size
    replace ho2x2 := ho2x2.ext hX20
    replace ho7x1 := ho7x1.ext hX20
    replace ho8x1 := ho8x1.ext hX20
    replace ho9x2 := ho9x2.ext hX20
    replace ho14x2 := ho14x2.ext hX20
    replace ho19x1 := ho19x1.ext hX20
    replace hV5 := hV5.ext hX20
    replace hV6 := hV6.ext hX20
    replace hV11 := hV11.ext hX20
    replace hV17 := hV17.ext hX20
    replace hV18 := hV18.ext hX20
    have hE20 := hE19.trans hX20
    have hlt20 := hV20.lt
    refine RL.stores ag28 (hV20) rfl rfl rfl rfl (ho19x1.one) (fun w21 hV21 hg21 => ?_)
    have hM21 := grown_mod (B := w19.heap.size) (U := w19.heap.size + 1) hg21 (fun k e => by simp only [Option.some.injEq] at e; omega)
    have hsz21 := hM21.size
    replace ho2x2 := ho2x2.mod hM21 (by omega)
    replace ho7x1 := ho7x1.mod hM21 (by omega)
    replace ho8x1 := ho8x1.mod hM21 (by omega)
    replace ho9x2 := ho9x2.mod hM21 (by omega)
    replace ho14x2 := ho14x2.mod hM21 (by omega)
    replace ho19x1 := ho19x1.mod hM21 (by omega)
    replace hV5 := hV5.mod hM21 (by omega)
    replace hV6 := hV6.mod hM21 (by omega)
    replace hV11 := hV11.mod hM21 (by omega)
    replace hV17 := hV17.mod hM21 (by omega)
    replace hV18 := hV18.mod hM21 (by omega)
    have hE21 := Ext.then_mod hE20 hM21 (by omega)
    refine RL.y rfl (y_asg (v := .int _ _) rfl) ?_
    refine RL.nil ?_
    refine Fin.next ?_
    refine CW.seq ?_
    refine CW.region ?_
    refine RL.y rfl (y_loads ag25 rfl (eqw (hV17)) rfl) ?_
    refine RL.y rfl (y_loads ag28 rfl (eqw (hV18)) rfl) ?_
    refine RL.y rfl (y_mov (v := .int _ _) rfl) ?_
    refine RL.y rfl (y_mov (v := .int _ _) rfl) ?_
    refine RL.call rfl (specWornLock_any ho14x2.rd) ?_
    rintro r w22 ⟨v122, rfl, ho22x1, hX22⟩
    have hsz22 := hX22.size
    replace ho2x2 := ho2x2.ext hX22
    replace ho7x1 := ho7x1.ext hX22
    replace ho8x1 := ho8x1.ext hX22
    replace ho9x2 := ho9x2.ext hX22
    replace ho14x2 := ho14x2.ext hX22
    replace ho19x1 := ho19x1.ext hX22
    replace hV5 := hV5.ext hX22
    replace hV6 := hV6.ext hX22
    replace hV11 := hV11.ext hX22
    replace hV17 := hV17.ext hX22
    replace hV18 := hV18.ext hX22
    replace hV21 := hV21.ext hX22
    have hE22 := hE21.trans hX22
    replace ho22x1 := OwL.of ho22x1
    obtain ⟨vs22x, rfl, _⟩ := id ho22x1
    refine RL.y rfl (y_mov (by conv => lhs; whnf)) ?_
    refine RL.y rfl (y_ext0 rfl) ?_
    refine RL.y rfl (y_ext1 rfl) ?_
    refine RL.alloc rfl ze28 (fun w23 hV23 hX23 => ?_)
    have hsz23 := hX23.size
    replace ho2x2 := ho2x2.ext hX23
    replace ho7x1 := ho7x1.ext hX23
    replace ho8x1 := ho8x1.ext hX23
    replace ho9x2 := ho9x2.ext hX23
    replace ho14x2 := ho14x2.ext hX23
    replace ho19x1 := ho19x1.ext hX23
    replace ho22x1 := ho22x1.ext hX23
    replace hV5 := hV5.ext hX23
    replace hV6 := hV6.ext hX23
    replace hV11 := hV11.ext hX23
    replace hV17 := hV17.ext hX23
    replace hV18 := hV18.ext hX23
    replace hV21 := hV21.ext hX23
    have hE23 := hE22.trans hX23
    have hlt23 := hV23.lt
    refine RL.stores ag28 (hV23) rfl rfl rfl rfl (ho22x1.one) (fun w24 hV24 hg24 => ?_)
    have hM24 := grown_mod (B := w22.heap.size) (U := w22.heap.size + 1) hg24 (fun k e => by simp only [Option.some.injEq] at e; omega)
    have hsz24 := hM24.size
    replace ho2x2 := ho2x2.mod hM24 (by omega)
    replace ho7x1 := ho7x1.mod hM24 (by omega)
    replace ho8x1 := ho8x1.mod hM24 (by omega)
    replace ho9x2 := ho9x2.mod hM24 (by omega)
    replace ho14x2 := ho14x2.mod hM24 (by omega)
    replace ho19x1 := ho19x1.mod hM24 (by omega)
    replace ho22x1 := ho22x1.mod hM24 (by omega)
    replace hV5 := hV5.mod hM24 (by omega)
    replace hV6 := hV6.mod hM24 (by omega)
    replace hV11 := hV11.mod hM24 (by omega)
    replace hV17 := hV17.mod hM24 (by omega)
    replace hV18 := hV18.mod hM24 (by omega)
    replace hV21 := hV21.mod hM24 (by omega)
    have hE24 := Ext.then_mod hE23 hM24 (by omega)
    refine RL.y rfl (y_asg (v := .int _ _) rfl) ?_
    refine RL.nil ?_
    refine Fin.next ?_
    refine CW.seq ?_
    refine CW.seq ?_
    refine CW.region ?_
    refine RL.y rfl (y_mov (v := .int _ _) rfl) ?_
    refine RL.y rfl (y_mov (v := .int _ _) rfl) ?_
    refine RL.y rfl (y_ne rfl rfl) ?_
    refine RL.y rfl (y_mov (v := .bool _) rfl) ?_
    refine RL.force (t := 102) false rfl rfl (by first | (simp; done) | exact decide_eq_false (by omega) | (simp [*]; done) | assumption) ?_
    refine RL.take (t := 102) rfl rfl rfl ?_
    refine RL.y rfl (y_mov (by conv => lhs; whnf)) ?_
    refine RL.take (t := 102) rfl rfl rfl ?_
    refine RL.y rfl (y_mov (by conv => lhs; whnf)) ?_
    refine RL.take (t := 102) rfl rfl rfl ?_
    refine RL.call rfl (likeInts_any ho7x1.sv ho8x1.sv) ?_
    rintro r w25 ⟨rfl, hX25⟩
    have hsz25 := hX25.size
    replace ho2x2 := ho2x2.ext hX25
    replace ho7x1 := ho7x1.ext hX25
    replace ho8x1 := ho8x1.ext hX25
    replace ho9x2 := ho9x2.ext hX25
    replace ho14x2 := ho14x2.ext hX25
    replace ho19x1 := ho19x1.ext hX25
    replace ho22x1 := ho22x1.ext hX25
    replace hV5 := hV5.ext hX25
    replace hV6 := hV6.ext hX25
    replace hV11 := hV11.ext hX25
    replace hV17 := hV17.ext hX25
    replace hV18 := hV18.ext hX25
    replace hV21 := hV21.ext hX25
    replace hV24 := hV24.ext hX25
    have hE25 := hE24.trans hX25
    refine RL.take (t := 102) rfl rfl rfl ?_
    refine RL.y rfl (y_not rfl) ?_
    refine RL.y rfl (y_pickF (v := .bool _) rfl rfl) ?_
    refine RL.y rfl (y_mov (v := .bool _) rfl) ?_
    refine RL.force (t := 108) false rfl rfl (by first | (simp; done) | exact decide_eq_false (by omega) | (simp [*]; done) | assumption) ?_
    refine RL.take (t := 108) rfl rfl rfl ?_
    refine RL.y rfl (y_mov (v := .int _ _) rfl) ?_
    refine RL.take (t := 108) rfl rfl rfl ?_
    refine RL.y rfl (y_mov (v := .int _ _) rfl) ?_
    refine RL.take (t := 108) rfl rfl rfl ?_
    refine RL.y rfl (y_ne rfl rfl) ?_
    refine RL.y rfl (y_pickF (v := .bool _) rfl rfl) ?_
    refine RL.y rfl (y_mov (v := .bool _) rfl) ?_
    refine RL.force (t := 113) false rfl rfl (by first | (simp; done) | exact decide_eq_false (by omega) | (simp [*]; done) | assumption) ?_
    refine RL.take (t := 113) rfl rfl rfl ?_
    refine RL.y rfl (y_mov (v := .int _ _) rfl) ?_
    refine RL.take (t := 113) rfl rfl rfl ?_
    refine RL.y rfl (y_mov (v := .int _ _) rfl) ?_
    refine RL.take (t := 113) rfl rfl rfl ?_
    refine RL.y rfl (y_ne rfl rfl) ?_
    refine RL.y rfl (y_pickF (v := .bool _) rfl rfl) ?_
    refine RL.y rfl (y_mov (v := .bool _) rfl) ?_
    refine RL.force (t := 118) false rfl rfl (by first | (simp; done) | exact decide_eq_false (by omega) | (simp [*]; done) | assumption) ?_
    refine RL.take (t := 118) rfl rfl rfl ?_
    refine RL.y rfl (y_mov (v := .int _ _) rfl) ?_
    refine RL.take (t := 118) rfl rfl rfl ?_
    refine RL.y rfl (y_mov (v := .int _ _) rfl) ?_
    refine RL.take (t := 118) rfl rfl rfl ?_
    refine RL.y rfl (y_ne rfl rfl) ?_
    refine RL.y rfl (y_pickF (v := .bool _) rfl rfl) ?_
    refine RL.y rfl (y_mov (v := .bool _) rfl) ?_
    refine RL.force (t := 123) false rfl rfl (by first | (simp; done) | exact decide_eq_false (by omega) | (simp [*]; done) | assumption) ?_
    refine RL.take (t := 123) rfl rfl rfl ?_
    refine RL.y rfl (y_loads ag28 rfl (eqw (hV21)) rfl) ?_
    refine RL.take (t := 123) rfl rfl rfl ?_
    refine RL.y rfl (y_loads ag28 rfl (eqw (hV24)) rfl) ?_
    refine RL.take (t := 123) rfl rfl rfl ?_
    refine RL.call rfl (likeLocks_any ho19x1.rd ho22x1.rd) ?_
    rintro r w26 ⟨rfl, hX26⟩
    have hsz26 := hX26.size
    replace ho2x2 := ho2x2.ext hX26
    replace ho7x1 := ho7x1.ext hX26
    replace ho8x1 := ho8x1.ext hX26
    replace ho9x2 := ho9x2.ext hX26
    replace ho14x2 := ho14x2.ext hX26
    replace ho19x1 := ho19x1.ext hX26
    replace ho22x1 := ho22x1.ext hX26
    replace hV5 := hV5.ext hX26
    replace hV6 := hV6.ext hX26
    replace hV11 := hV11.ext hX26
    replace hV17 := hV17.ext hX26
    replace hV18 := hV18.ext hX26
    replace hV21 := hV21.ext hX26
    replace hV24 := hV24.ext hX26
    have hE26 := hE25.trans hX26
    refine RL.take (t := 123) rfl rfl rfl ?_
    refine RL.y rfl (y_not rfl) ?_
    refine RL.y rfl (y_pickF (v := .bool _) rfl rfl) ?_
    refine RL.y rfl (y_mov (v := .bool _) rfl) ?_
    refine RL.force (t := 129) false rfl rfl (by first | (simp; done) | exact decide_eq_false (by omega) | (simp [*]; done) | assumption) ?_
    refine RL.take (t := 129) rfl rfl rfl ?_
    refine RL.y rfl (y_mov (v := .int _ _) rfl) ?_
    refine RL.take (t := 129) rfl rfl rfl ?_
    refine RL.y rfl (y_eq rfl rfl) ?_
    refine RL.take (t := 129) rfl rfl rfl ?_
    refine RL.y rfl (y_mov (v := .bool _) rfl) ?_
    refine RL.split (t := 132) rfl rfl (fun h1 => ?_) (fun h1 => ?_)
    · with_reducible first | (replace h1 := deNF h1) | (replace h1 := of_decide_eq_true h1) | (replace h1 := of_decide_eq_false h1) | (replace h1 := deNT h1) | (replace h1 := deNN h1) | (replace h1 := bnT h1) | (replace h1 := bnF h1) | skip
      have hn := nb_pos h1
      refine RL.take (t := 132) rfl rfl rfl ?_
      refine RL.y rfl (y_mov (v := .int _ _) rfl) ?_
      refine RL.take (t := 132) rfl rfl rfl ?_
      refine RL.y rfl (y_lt rfl rfl) ?_
      refine RL.take (t := 129) rfl rfl rfl ?_
      refine RL.y rfl (y_pickT (v := .bool _) rfl rfl) ?_
      refine RL.y rfl (y_pickF (v := .bool _) rfl rfl) ?_
      refine RL.nil ?_
      refine Fin.next ?_
      refine CW.condF rfl (by first | (simp; done) | exact decide_eq_false (by omega) | (simp [*]; done) | assumption) ?_
      refine CW.skip ?_
      refine Fin.next ?_
      refine CW.seq ?_
      refine CW.seq ?_
      refine CW.region ?_
      refine RL.y rfl (y_mov (v := .int _ _) rfl) ?_
      refine RL.y rfl (y_ne rfl rfl) ?_
      refine RL.nil ?_
      refine Fin.next ?_
      refine CW.cond rfl rfl (fun h2 => ?_) (fun h2 => ?_)
      · with_reducible first | (replace h2 := deNF h2) | (replace h2 := of_decide_eq_true h2) | (replace h2 := of_decide_eq_false h2) | (replace h2 := deNT h2) | (replace h2 := deNN h2) | (replace h2 := bnT h2) | (replace h2 := bnF h2) | skip
        refine CW.seq ?_
        refine CW.region ?_
        refine RL.y rfl (y_asg rfl) ?_
        refine RL.nil ?_
        refine Fin.next ?_
        refine CW.ret ?_
        refine Fin.thenRet ?_
        refine Fin.ret1 rfl (by conv => lhs; whnf) ?_
        exact ⟨_, rfl, rfl, hE26⟩
      · with_reducible first | (replace h2 := deNF h2) | (replace h2 := of_decide_eq_true h2) | (replace h2 := of_decide_eq_false h2) | (replace h2 := deNT h2) | (replace h2 := deNN h2) | (replace h2 := bnT h2) | (replace h2 := bnF h2) | skip
        obtain ⟨⟨f1, f2⟩, f3, f4, f5, f6⟩ := free_facts h2
        have hgd : ss2.getD a2.toNat [] = ss2[a2.toNat] := getD_lt f2
        rw [hgd] at f5 f6
        refine CW.skip ?_
        refine Fin.next ?_
        refine CW.seq ?_
        refine CW.seq ?_
        refine CW.region ?_
        refine RL.y rfl (y_asg rfl) ?_
        refine RL.nil ?_
        refine Fin.next ?_
        refine CW.block ?_
        refine CW.loop (fun m E w' => ∃ i : Nat, m = ss2[a2.toNat].length - i ∧ i ≤ ss2[a2.toNat].length ∧ agrees E [(4, .pointer (some ⟨w3.heap.size, 0, none⟩)), (5, .int .i64 a2), (7, v17), (27, .int .i64 (i : Int))] ∧ Ext w26 w') _ ⟨0, rfl, Nat.zero_le _, ⟨rfl, rfl, rfl, rfl, trivial⟩, Ext.refl _⟩ ?_
        · rintro m E w51 ⟨i, rfl, hki, hagi, hL1⟩
          refine CW.re _ hagi rfl ?_
          clear hagi
          replace ho2x2 := ho2x2.ext hL1
          replace ho7x1 := ho7x1.ext hL1
          replace ho8x1 := ho8x1.ext hL1
          replace ho9x2 := ho9x2.ext hL1
          replace ho14x2 := ho14x2.ext hL1
          replace ho19x1 := ho19x1.ext hL1
          replace ho22x1 := ho22x1.ext hL1
          replace hV5 := hV5.ext hL1
          replace hV6 := hV6.ext hL1
          replace hV11 := hV11.ext hL1
          replace hV17 := hV17.ext hL1
          replace hV18 := hV18.ext hL1
          replace hV21 := hV21.ext hL1
          replace hV24 := hV24.ext hL1
          have hE1l := hE26.trans hL1
          obtain ⟨cq, hcq⟩ := ho2x2.rd.sets
          have hcql : a2 < (cq.length : Int) := by rw [hcq.2.1]; omega
          refine CW.seq ?_
          refine CW.seq ?_
          refine CW.region ?_
          refine RL.y rfl (y_mov (v := .int _ _) rfl) ?_
          refine RL.y rfl (y_fa fa28_0 rfl rfl) ?_
          refine RL.y rfl (y_loadv sc26 (eqw (hV6)) rfl rfl) ?_
          refine RL.y rfl (y_mov (v := .int _ _) rfl) ?_
          refine RL.y rfl (y_ixi sT26 (eqw (hcq.1)) f1 hcql rfl rfl) ?_
          refine RL.y rfl (y_load sc29 (eqw (hcq.1)) (hcq.at f2) rfl) ?_
          refine RL.y rfl (y_len sT29 (hcq.row f2) (ints_len _) rfl) ?_
          refine RL.y rfl (y_lt rfl rfl) ?_
          refine RL.nil ?_
          refine Fin.next ?_
          refine CW.cond rfl rfl (fun hci => ?_) (fun hci => ?_)
          · with_reducible first | (replace hci := deNF hci) | (replace hci := of_decide_eq_true hci) | (replace hci := of_decide_eq_false hci) | (replace hci := deNT hci) | (replace hci := deNN hci) | (replace hci := bnT hci) | (replace hci := bnF hci) | skip
            have hlti : i < ss2[a2.toNat].length := by omega
            have hx := f3 _ (List.getElem_mem f2) _ (List.getElem_mem hlti)
            have hsl := SI.le (hcq.row f2)
            have hm := f5 _ (List.getElem_mem hlti)
            refine CW.skip ?_
            refine Fin.next ?_
            refine CW.seq ?_
            refine CW.block ?_
            refine CW.seq ?_
            refine CW.region ?_
            refine RL.y rfl (y_mov (by conv => lhs; whnf)) ?_
            refine RL.y rfl (y_fa fa28_0 rfl rfl) ?_
            refine RL.y rfl (y_loadv sc26 (eqw (hV6)) rfl rfl) ?_
            refine RL.y rfl (y_mov (v := .int _ _) rfl) ?_
            refine RL.y rfl (y_ixi sT26 (eqw (hcq.1)) f1 hcql rfl rfl) ?_
            refine RL.y rfl (y_load sc29 (eqw (hcq.1)) (hcq.at f2) rfl) ?_
            refine RL.y rfl (y_mov (v := .int _ _) rfl) ?_
            refine RL.y rfl (y_ixa sT29 (eqw ((hcq.row f2))) (k := i) (ints_lt hlti) rfl rfl) ?_
            refine RL.y rfl (y_load sc2 (eqw ((hcq.row f2))) (B.ints_at hlti) rfl) ?_
            refine RL.y rfl (y_mul rfl rfl (IntWalk.i64_in _ (by omega))) ?_
            refine RL.call rfl (hasInt_any ho7x1.sv) ?_
            rintro r w27 ⟨rfl, rfl⟩
            refine RL.y rfl (y_not rfl) ?_
            refine RL.nil ?_
            refine Fin.next ?_
            refine CW.condF rfl ((by simp [hm])) ?_
            refine CW.skip ?_
            refine Fin.blockNormal ?_
            refine Fin.next ?_
            refine CW.region ?_
            refine RL.y rfl (y_mov (v := .int _ _) rfl) ?_
            refine RL.y rfl (y_add rfl rfl (IntWalk.i64_in _ (by omega))) ?_
            refine RL.y rfl (y_asg (v := .int _ _) rfl) ?_
            refine RL.nil ?_
            refine Fin.le ?_
            exact ⟨ss2[a2.toNat].length - (i + 1), by omega, i + 1, rfl, hlti, ⟨rfl, rfl, rfl, rfl, trivial⟩, hL1⟩
          · with_reducible first | (replace hci := deNF hci) | (replace hci := of_decide_eq_true hci) | (replace hci := of_decide_eq_false hci) | (replace hci := deNT hci) | (replace hci := deNN hci) | (replace hci := bnT hci) | (replace hci := bnF hci) | skip
            obtain rfl : ss2[a2.toNat].length = i := by omega
            refine CW.exit ?_
            refine Fin.thenExit ?_
            refine Fin.thenExit ?_
            refine Fin.blockHit ?_
            refine Fin.next ?_
            refine CW.seq ?_
            refine CW.region ?_
            refine RL.y rfl (y_mov (by conv => lhs; whnf)) ?_
            refine RL.y rfl (y_len sT29 ho7x1.sv (ints_len _) rfl) ?_
            refine RL.y rfl (y_fa fa28_0 rfl rfl) ?_
            refine RL.y rfl (y_loadv sc26 (eqw (hV6)) rfl rfl) ?_
            refine RL.y rfl (y_mov (v := .int _ _) rfl) ?_
            refine RL.y rfl (y_ixi sT26 (eqw (hcq.1)) f1 hcql rfl rfl) ?_
            refine RL.y rfl (y_load sc29 (eqw (hcq.1)) (hcq.at f2) rfl) ?_
            refine RL.y rfl (y_len sT29 (hcq.row f2) (ints_len _) rfl) ?_
            refine RL.y rfl (y_ge rfl rfl) ?_
            refine RL.y rfl (y_asg (v := .bool _) rfl) ?_
            refine RL.nil ?_
            refine Fin.next ?_
            refine CW.ret ?_
            refine Fin.ret1 rfl (by conv => lhs; whnf) ?_
            exact ⟨_, rfl, congrArg Value.bool (decide_eq_true (by omega)), hE1l⟩
    · with_reducible first | (replace h1 := deNF h1) | (replace h1 := of_decide_eq_true h1) | (replace h1 := of_decide_eq_false h1) | (replace h1 := deNT h1) | (replace h1 := deNN h1) | (replace h1 := bnT h1) | (replace h1 := bnF h1) | skip
      refine RL.pass (t := 132) rfl rfl rfl rfl ?_
      refine RL.pass (t := 132) rfl rfl rfl rfl ?_
      refine RL.take (t := 129) rfl rfl rfl ?_
      refine RL.y rfl (y_pickF (v := .bool _) rfl rfl) ?_
      refine RL.y rfl (y_pickF (v := .bool _) rfl rfl) ?_
      refine RL.nil ?_
      refine Fin.next ?_
      refine CW.condF rfl rfl ?_
      refine CW.skip ?_
      refine Fin.next ?_
      refine CW.seq ?_
      refine CW.seq ?_
      refine CW.region ?_
      refine RL.y rfl (y_mov (v := .int _ _) rfl) ?_
      refine RL.y rfl (y_ne rfl rfl) ?_
      refine RL.nil ?_
      refine Fin.next ?_
      refine CW.cond rfl rfl (fun h2 => ?_) (fun h2 => ?_)
      · with_reducible first | (replace h2 := deNF h2) | (replace h2 := of_decide_eq_true h2) | (replace h2 := of_decide_eq_false h2) | (replace h2 := deNT h2) | (replace h2 := deNN h2) | (replace h2 := bnT h2) | (replace h2 := bnF h2) | skip
        refine CW.seq ?_
        refine CW.region ?_
        refine RL.y rfl (y_asg rfl) ?_
        refine RL.nil ?_
        refine Fin.next ?_
        refine CW.ret ?_
        refine Fin.thenRet ?_
        refine Fin.ret1 rfl (by conv => lhs; whnf) ?_
        exact ⟨_, rfl, rfl, hE26⟩
      · with_reducible first | (replace h2 := deNF h2) | (replace h2 := of_decide_eq_true h2) | (replace h2 := of_decide_eq_false h2) | (replace h2 := deNT h2) | (replace h2 := deNN h2) | (replace h2 := bnT h2) | (replace h2 := bnF h2) | skip
        obtain ⟨⟨f1, f2⟩, f3, f4, f5, f6⟩ := free_facts h2
        have hgd : ss2.getD a2.toNat [] = ss2[a2.toNat] := getD_lt f2
        rw [hgd] at f5 f6
        refine CW.skip ?_
        refine Fin.next ?_
        refine CW.seq ?_
        refine CW.seq ?_
        refine CW.region ?_
        refine RL.y rfl (y_asg rfl) ?_
        refine RL.nil ?_
        refine Fin.next ?_
        refine CW.block ?_
        refine CW.loop (fun m E w' => ∃ i : Nat, m = ss2[a2.toNat].length - i ∧ i ≤ ss2[a2.toNat].length ∧ agrees E [(4, .pointer (some ⟨w3.heap.size, 0, none⟩)), (5, .int .i64 a2), (7, v17), (27, .int .i64 (i : Int))] ∧ Ext w26 w') _ ⟨0, rfl, Nat.zero_le _, ⟨rfl, rfl, rfl, rfl, trivial⟩, Ext.refl _⟩ ?_
        · rintro m E w51 ⟨i, rfl, hki, hagi, hL1⟩
          refine CW.re _ hagi rfl ?_
          clear hagi
          replace ho2x2 := ho2x2.ext hL1
          replace ho7x1 := ho7x1.ext hL1
          replace ho8x1 := ho8x1.ext hL1
          replace ho9x2 := ho9x2.ext hL1
          replace ho14x2 := ho14x2.ext hL1
          replace ho19x1 := ho19x1.ext hL1
          replace ho22x1 := ho22x1.ext hL1
          replace hV5 := hV5.ext hL1
          replace hV6 := hV6.ext hL1
          replace hV11 := hV11.ext hL1
          replace hV17 := hV17.ext hL1
          replace hV18 := hV18.ext hL1
          replace hV21 := hV21.ext hL1
          replace hV24 := hV24.ext hL1
          have hE1l := hE26.trans hL1
          obtain ⟨cq, hcq⟩ := ho2x2.rd.sets
          have hcql : a2 < (cq.length : Int) := by rw [hcq.2.1]; omega
          refine CW.seq ?_
          refine CW.seq ?_
          refine CW.region ?_
          refine RL.y rfl (y_mov (v := .int _ _) rfl) ?_
          refine RL.y rfl (y_fa fa28_0 rfl rfl) ?_
          refine RL.y rfl (y_loadv sc26 (eqw (hV6)) rfl rfl) ?_
          refine RL.y rfl (y_mov (v := .int _ _) rfl) ?_
          refine RL.y rfl (y_ixi sT26 (eqw (hcq.1)) f1 hcql rfl rfl) ?_
          refine RL.y rfl (y_load sc29 (eqw (hcq.1)) (hcq.at f2) rfl) ?_
          refine RL.y rfl (y_len sT29 (hcq.row f2) (ints_len _) rfl) ?_
          refine RL.y rfl (y_lt rfl rfl) ?_
          refine RL.nil ?_
          refine Fin.next ?_
          refine CW.cond rfl rfl (fun hci => ?_) (fun hci => ?_)
          · with_reducible first | (replace hci := deNF hci) | (replace hci := of_decide_eq_true hci) | (replace hci := of_decide_eq_false hci) | (replace hci := deNT hci) | (replace hci := deNN hci) | (replace hci := bnT hci) | (replace hci := bnF hci) | skip
            have hlti : i < ss2[a2.toNat].length := by omega
            have hx := f3 _ (List.getElem_mem f2) _ (List.getElem_mem hlti)
            have hsl := SI.le (hcq.row f2)
            have hm := f5 _ (List.getElem_mem hlti)
            refine CW.skip ?_
            refine Fin.next ?_
            refine CW.seq ?_
            refine CW.block ?_
            refine CW.seq ?_
            refine CW.region ?_
            refine RL.y rfl (y_mov (by conv => lhs; whnf)) ?_
            refine RL.y rfl (y_fa fa28_0 rfl rfl) ?_
            refine RL.y rfl (y_loadv sc26 (eqw (hV6)) rfl rfl) ?_
            refine RL.y rfl (y_mov (v := .int _ _) rfl) ?_
            refine RL.y rfl (y_ixi sT26 (eqw (hcq.1)) f1 hcql rfl rfl) ?_
            refine RL.y rfl (y_load sc29 (eqw (hcq.1)) (hcq.at f2) rfl) ?_
            refine RL.y rfl (y_mov (v := .int _ _) rfl) ?_
            refine RL.y rfl (y_ixa sT29 (eqw ((hcq.row f2))) (k := i) (ints_lt hlti) rfl rfl) ?_
            refine RL.y rfl (y_load sc2 (eqw ((hcq.row f2))) (B.ints_at hlti) rfl) ?_
            refine RL.y rfl (y_mul rfl rfl (IntWalk.i64_in _ (by omega))) ?_
            refine RL.call rfl (hasInt_any ho7x1.sv) ?_
            rintro r w28 ⟨rfl, rfl⟩
            refine RL.y rfl (y_not rfl) ?_
            refine RL.nil ?_
            refine Fin.next ?_
            refine CW.condF rfl ((by simp [hm])) ?_
            refine CW.skip ?_
            refine Fin.blockNormal ?_
            refine Fin.next ?_
            refine CW.region ?_
            refine RL.y rfl (y_mov (v := .int _ _) rfl) ?_
            refine RL.y rfl (y_add rfl rfl (IntWalk.i64_in _ (by omega))) ?_
            refine RL.y rfl (y_asg (v := .int _ _) rfl) ?_
            refine RL.nil ?_
            refine Fin.le ?_
            exact ⟨ss2[a2.toNat].length - (i + 1), by omega, i + 1, rfl, hlti, ⟨rfl, rfl, rfl, rfl, trivial⟩, hL1⟩
          · with_reducible first | (replace hci := deNF hci) | (replace hci := of_decide_eq_true hci) | (replace hci := of_decide_eq_false hci) | (replace hci := deNT hci) | (replace hci := deNN hci) | (replace hci := bnT hci) | (replace hci := bnF hci) | skip
            obtain rfl : ss2[a2.toNat].length = i := by omega
            refine CW.exit ?_
            refine Fin.thenExit ?_
            refine Fin.thenExit ?_
            refine Fin.blockHit ?_
            refine Fin.next ?_
            refine CW.seq ?_
            refine CW.region ?_
            refine RL.y rfl (y_mov (by conv => lhs; whnf)) ?_
            refine RL.y rfl (y_len sT29 ho7x1.sv (ints_len _) rfl) ?_
            refine RL.y rfl (y_fa fa28_0 rfl rfl) ?_
            refine RL.y rfl (y_loadv sc26 (eqw (hV6)) rfl rfl) ?_
            refine RL.y rfl (y_mov (v := .int _ _) rfl) ?_
            refine RL.y rfl (y_ixi sT26 (eqw (hcq.1)) f1 hcql rfl rfl) ?_
            refine RL.y rfl (y_load sc29 (eqw (hcq.1)) (hcq.at f2) rfl) ?_
            refine RL.y rfl (y_len sT29 (hcq.row f2) (ints_len _) rfl) ?_
            refine RL.y rfl (y_ge rfl rfl) ?_
            refine RL.y rfl (y_asg (v := .bool _) rfl) ?_
            refine RL.nil ?_
            refine Fin.next ?_
            refine CW.ret ?_
            refine Fin.ret1 rfl (by conv => lhs; whnf) ?_
            exact ⟨_, rfl, congrArg Value.bool (decide_eq_true (by omega)), hE1l⟩
namespace fnPlaces
open Go.ChangeShapes Go.WideShapes Go.ChangeAt Go.RowKit
set_option linter.unusedVariables false
theorem own : ownKnob Try.prog.godebug = none := by kernel_rfl
theorem laidOut : laidOutB Try.prog = true := by kernel_rfl
set_option maxRecDepth 100000 in
theorem lifted (os : Os) (started : os.Started) (H : Type) (enc : TypeId × Value → H) :
    ReturnsInHanded {} Try.checked os 12 .any (Rows.fnPlacesSpec.pre6 enc Try.prog Try.f12 Rows.fnPlacesRow.domain false) (Rows.fnPlacesSpec.post enc Try.prog Try.f12 false true false false) := by
  refine returnsInHanded_of_change (C := Try.checked) own started (by kernel_rfl) Try.func12
    (ChangeSpec.witness6 (enc := enc) (C := Try.checked) false ⟨#[], #[.slice none 0 0], []⟩ 8 (by kernel_rfl) (by kernel_rfl) (by kernel_rfl) (by kernel_rfl)) ?_
  intro W base args ds gs before hval0 hW hcnd _
  have hval : ∀ (j : Nat) t v, Try.f12.params[j]? = some t → args[j]? = some v → Value.okWide Try.prog W .any base t v := hval0
  have hW' := hW
  obtain ⟨p, q, hA0, hV, rfl, hfz, hnd⟩ := hW
  have hA : DataW.TrodAll enc Try.prog W 0 (fun _ => true) true Try.f12.params.toList args.toList ds p := hA0
  rw [Try.params12] at hA hval
  have hkeep := hA
  obtain ⟨v0, vs0, d0, ds0, p0, q0, hargs, rfl, rfl, h0, r0⟩ := trodAll_cons hA
  obtain ⟨rfl, rfl, rfl⟩ := trodAll_nil r0
  obtain rfl : args = #[v0] := by cases args; simp_all
  obtain ⟨rfl, rfl⟩ := trodVars_none hV
  obtain ⟨l0, hs0⟩ := open_SU8 Try.underlying22 Try.underlying5 (by kernel_rfl) (hval 0 22 v0 rfl rfl) h0
  refine (lawPlaces W v0 l0 hs0).calls.mono fun e W' ⟨r, he, hr, hg⟩ => ?_
  subst hr
  subst he
  exact ⟨_, rfl, _, _, _, [] ++ [], _, [], hW', trodAll_cons_mk (shut_bool Try.underlying4 _) trodAll_mk0, trodAll_ext laidOut (by kernel_rfl) hkeep hg (fun x hx => hW'.lt x (List.mem_append_left _ hx)), rfl, hg.frame _, fun h => by cases h⟩
theorem over : Rows.fnPlacesRow.holds Try.pinned (OpenSpec.ofChange Rows.fnPlacesSpec) :=
  OpenClaim.holds_of_wide 12 Try.f12 rfl rfl rfl rfl rfl rfl rfl ⟨rfl, rfl, rfl, rfl, rfl⟩ rfl rfl rfl rfl rfl (by kernel_rfl) Try.func12 (by kernel_rfl)
    (of_decide_eq_true (by kernel_rfl)) (by unfold Func.isWrapper; first | (rw [if_pos (by decide +kernel)]; kernel_rfl) | (rw [if_neg (by decide +kernel)]; exact ⟨rfl, rfl⟩))
    (fun os started H enc _ => lifted os started H enc)
theorem proved : Rows.FnPlacesSaid := over
end fnPlaces
#print axioms fnPlaces.proved
end Go.Proofs.Ytaepdknmagaokaa
