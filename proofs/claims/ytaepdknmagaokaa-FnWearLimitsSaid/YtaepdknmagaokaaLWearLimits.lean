/-
  With the limit a key surely opens, with more wear it does not; the openers are among those that may open; the program's answers are the reference's. No condition.
-/
import Derived.Test.YtaepdknmagaokaaFLawW
import Derived.Test.YtaepdknmagaokaaLift6
import Derived.Test.YtaepdknmagaokaaRows
namespace Go.Proofs.Ytaepdknmagaokaa
open B Go.RowKit

set_option maxRecDepth 8000 in
theorem lawWearLimits (w : World) (v0 : Value) (l0 : List UInt8) (hs0 : SV w v0 (byts l0)) :
    Does Try.prog 3 #[v0] w (fun r w' => r = .bool true ∧ Ext w w') := by
  refine enter Try.func3 rfl 141 Try.ntmps3 rfl (by kernel_rfl) ?_
  refine CW.seq ?_
  refine CW.region ?_
  refine RL.y rfl (y_asg rfl) ?_
  refine RL.nil ?_
  refine Fin.next ?_
  refine CW.seq ?_
  refine CW.seq ?_
  refine CW.region ?_
  refine RL.y rfl (y_mov (by conv => lhs; whnf)) ?_
  refine RL.call rfl (big_any (hs0.ext (Ext.refl w))) ?_
  rintro r w1 ⟨rfl, rfl⟩
  refine RL.nil ?_
  refine Fin.next ?_
  refine CW.cond rfl rfl (fun hbig => ?_) (fun hbig => ?_)
  · with_reducible first | (replace hbig := deNF hbig) | (replace hbig := of_decide_eq_true hbig) | (replace hbig := of_decide_eq_false hbig) | (replace hbig := deNT hbig) | (replace hbig := deNN hbig) | (replace hbig := bnT hbig) | (replace hbig := bnF hbig) | skip
    refine CW.seq ?_
    refine CW.region ?_
    refine RL.y rfl (y_asg rfl) ?_
    refine RL.nil ?_
    refine Fin.next ?_
    refine CW.ret ?_
    refine Fin.thenRet ?_
    refine Fin.ret1 rfl (by conv => lhs; whnf) ?_
    exact ⟨_, rfl, rfl, (Ext.refl w)⟩
  · with_reducible first | (replace hbig := deNF hbig) | (replace hbig := of_decide_eq_true hbig) | (replace hbig := of_decide_eq_false hbig) | (replace hbig := deNT hbig) | (replace hbig := deNN hbig) | (replace hbig := bnT hbig) | (replace hbig := bnF hbig) | skip
    refine CW.skip ?_
    refine Fin.next ?_
    refine CW.seq ?_
    refine CW.region ?_
    refine RL.y rfl (y_mov (by conv => lhs; whnf)) ?_
    refine RL.call rfl (DrawWearLimit_any (hs0.ext (Ext.refl w))) ?_
    rintro r w2 ⟨q2, v12, ss2, v22, xs2, t2, rfl, _, ho2x2, ho2x3, _, _, hX2⟩
    have hsz2 := hX2.size
    have hE2 := hX2
    replace ho2x2 := RuL.of ho2x2
    obtain ⟨vs2x, rfl, _⟩ := id ho2x2
    replace ho2x3 := RuI.of ho2x3
    refine RL.y rfl (y_mov (by conv => lhs; whnf)) ?_
    refine RL.y rfl (y_ext0 rfl) ?_
    refine RL.y rfl (y_ext1 rfl) ?_
    refine RL.y rfl (y_ext2 rfl) ?_
    refine RL.y rfl (y_ext3 rfl) ?_
    refine RL.alloc rfl ze25 (fun w3 hV3 hX3 => ?_)
    have hsz3 := hX3.size
    replace ho2x2 := ho2x2.ext hX3
    replace ho2x3 := ho2x3.ext hX3
    have hE3 := hE2.trans hX3
    have hlt3 := hV3.lt
    refine RL.alloc rfl ze28 (fun w4 hV4 hX4 => ?_)
    have hsz4 := hX4.size
    replace ho2x2 := ho2x2.ext hX4
    replace ho2x3 := ho2x3.ext hX4
    replace hV3 := hV3.ext hX4
    have hE4 := hE3.trans hX4
    have hlt4 := hV4.lt
    refine RL.stores ag25 (hV3) rfl rfl rfl rfl (rfl) (fun w5 hV5 hg5 => ?_)
    have hM5 := grown_mod (B := w2.heap.size) (U := w2.heap.size + 1) hg5 (fun k e => by simp only [Option.some.injEq] at e; omega)
    have hsz5 := hM5.size
    replace ho2x2 := ho2x2.mod hM5 (by omega)
    replace ho2x3 := ho2x3.mod hM5 (by omega)
    replace hV4 := hV4.mod hM5 (by omega)
    have hE5 := Ext.then_mod hE4 hM5 (by omega)
    refine RL.stores ag28 (hV4) rfl rfl rfl rfl (ho2x2.one) (fun w6 hV6 hg6 => ?_)
    have hM6 := grown_mod (B := w3.heap.size) (U := w3.heap.size + 1) hg6 (fun k e => by simp only [Option.some.injEq] at e; omega)
    have hsz6 := hM6.size
    replace ho2x2 := ho2x2.mod hM6 (by omega)
    replace ho2x3 := ho2x3.mod hM6 (by omega)
    replace hV5 := hV5.mod hM6 (by omega)
    have hE6 := Ext.then_mod hE5 hM6 (by omega)
    refine RL.y rfl (y_asg (by conv => lhs; whnf)) ?_
    refine RL.y rfl (y_asg (v := .int _ _) rfl) ?_
    refine RL.nil ?_
    refine Fin.next ?_
    refine CW.seq ?_
    refine CW.region ?_
    refine RL.y rfl (y_loads ag25 rfl (eqw (hV5)) rfl) ?_
    refine RL.y rfl (y_loads ag28 rfl (eqw (hV6)) rfl) ?_
    refine RL.y rfl (y_mov (by conv => lhs; whnf)) ?_
    refine RL.y rfl (y_mov (v := .int _ _) rfl) ?_
    refine RL.call rfl (implWearLimit_any ho2x2.rd ho2x3.rd) ?_
    rintro r w7 ⟨rfl, hX7⟩
    have hsz7 := hX7.size
    replace ho2x2 := ho2x2.ext hX7
    replace ho2x3 := ho2x3.ext hX7
    replace hV5 := hV5.ext hX7
    replace hV6 := hV6.ext hX7
    have hE7 := hE6.trans hX7
    refine RL.y rfl (y_mov (by conv => lhs; whnf)) ?_
    refine RL.y rfl (y_ext0 rfl) ?_
    refine RL.y rfl (y_ext1 rfl) ?_
    refine RL.y rfl (y_asg (v := .int _ _) rfl) ?_
    refine RL.y rfl (y_asg (v := .int _ _) rfl) ?_
    refine RL.nil ?_
    refine Fin.next ?_
    refine CW.seq ?_
    refine CW.region ?_
    refine RL.y rfl (y_loads ag25 rfl (eqw (hV5)) rfl) ?_
    refine RL.y rfl (y_loads ag28 rfl (eqw (hV6)) rfl) ?_
    refine RL.y rfl (y_mov (by conv => lhs; whnf)) ?_
    refine RL.y rfl (y_mov (v := .int _ _) rfl) ?_
    refine RL.call rfl (specWearLimit_any ho2x2.rd ho2x3.rd) ?_
    rintro r w8 ⟨rfl, hX8⟩
    have hsz8 := hX8.size
    replace ho2x2 := ho2x2.ext hX8
    replace ho2x3 := ho2x3.ext hX8
    replace hV5 := hV5.ext hX8
    replace hV6 := hV6.ext hX8
    have hE8 := hE7.trans hX8
    refine RL.y rfl (y_mov (by conv => lhs; whnf)) ?_
    refine RL.y rfl (y_ext0 rfl) ?_
    refine RL.y rfl (y_ext1 rfl) ?_
    refine RL.y rfl (y_asg (v := .int _ _) rfl) ?_
    refine RL.y rfl (y_asg (v := .int _ _) rfl) ?_
    refine RL.nil ?_
    refine Fin.next ?_
    refine CW.seq ?_
    refine CW.region ?_
    refine RL.y rfl (y_mov (by conv => lhs; whnf)) ?_
    refine RL.call rfl (DrawCountMayOpen_any (hs0.ext hE8)) ?_
    rintro r w9 ⟨q9, v19, ss9, a9, t9, rfl, _, ho9x2, _, hX9⟩
    have hsz9 := hX9.size
    replace ho2x2 := ho2x2.ext hX9
    replace ho2x3 := ho2x3.ext hX9
    replace hV5 := hV5.ext hX9
    replace hV6 := hV6.ext hX9
    have hE9 := hE8.trans hX9
    replace ho9x2 := RuL.of ho9x2
    obtain ⟨vs9x, rfl, _⟩ := id ho9x2
    refine RL.y rfl (y_mov (by conv => lhs; whnf)) ?_
    refine RL.y rfl (y_ext0 rfl) ?_
    refine RL.y rfl (y_ext1 rfl) ?_
    refine RL.y rfl (y_ext2 rfl) ?_
    refine RL.y rfl (y_ext3 rfl) ?_
    refine RL.alloc rfl ze25 (fun w10 hV10 hX10 => ?_)
    have hsz10 := hX10.size
    replace ho2x2 := ho2x2.ext hX10
    replace ho2x3 := ho2x3.ext hX10
    replace ho9x2 := ho9x2.ext hX10
    replace hV5 := hV5.ext hX10
    replace hV6 := hV6.ext hX10
    have hE10 := hE9.trans hX10
    have hlt10 := hV10.lt
    refine RL.alloc rfl ze28 (fun w11 hV11 hX11 => ?_)
    have hsz11 := hX11.size
    replace ho2x2 := ho2x2.ext hX11
    replace ho2x3 := ho2x3.ext hX11
    replace ho9x2 := ho9x2.ext hX11
    replace hV5 := hV5.ext hX11
    replace hV6 := hV6.ext hX11
    replace hV10 := hV10.ext hX11
    have hE11 := hE10.trans hX11
    have hlt11 := hV11.lt
    refine RL.stores ag25 (hV10) rfl rfl rfl rfl (rfl) (fun w12 hV12 hg12 => ?_)
    have hM12 := grown_mod (B := w9.heap.size) (U := w9.heap.size + 1) hg12 (fun k e => by simp only [Option.some.injEq] at e; omega)
    have hsz12 := hM12.size
    replace ho2x2 := ho2x2.mod hM12 (by omega)
    replace ho2x3 := ho2x3.mod hM12 (by omega)
    replace ho9x2 := ho9x2.mod hM12 (by omega)
    replace hV5 := hV5.mod hM12 (by omega)
    replace hV6 := hV6.mod hM12 (by omega)
    replace hV11 := hV11.mod hM12 (by omega)
    have hE12 := Ext.then_mod hE11 hM12 (by omega)
    refine RL.stores ag28 (hV11) rfl rfl rfl rfl (ho9x2.one) (fun w13 hV13 hg13 => ?_)
    have hM13 := grown_mod (B := w10.heap.size) (U := w10.heap.size + 1) hg13 (fun k e => by simp only [Option.some.injEq] at e; omega)
    have hsz13 := hM13.size
    replace ho2x2 := ho2x2.mod hM13 (by omega)
    replace ho2x3 := ho2x3.mod hM13 (by omega)
    replace ho9x2 := ho9x2.mod hM13 (by omega)
    replace hV5 := hV5.mod hM13 (by omega)
    replace hV6 := hV6.mod hM13 (by omega)
    replace hV12 := hV12.mod hM13 (by omega)
    have hE13 := Ext.then_mod hE12 hM13 (by omega)
    refine RL.y rfl (y_asg (v := .int _ _) rfl) ?_
    refine RL.y rfl (y_asg (v := .int _ _) rfl) ?_
    refine RL.nil ?_
    refine Fin.next ?_
    refine CW.seq ?_
    refine CW.region ?_
    refine RL.y rfl (y_loads ag25 rfl (eqw (hV12)) rfl) ?_
    refine RL.y rfl (y_loads ag28 rfl (eqw (hV13)) rfl) ?_
    refine RL.y rfl (y_mov (v := .int _ _) rfl) ?_
    refine RL.y rfl (y_mov (v := .int _ _) rfl) ?_
    refine RL.call rfl (implCountMayOpen_any ho9x2.rd) ?_
    rintro r w14 ⟨rfl, hX14⟩
    have hsz14 := hX14.size
    replace ho2x2 := ho2x2.ext hX14
    replace ho2x3 := ho2x3.ext hX14
    replace ho9x2 := ho9x2.ext hX14
    replace hV5 := hV5.ext hX14
    replace hV6 := hV6.ext hX14
    replace hV12 := hV12.ext hX14
    replace hV13 := hV13.ext hX14
    have hE14 := hE13.trans hX14
    refine RL.y rfl (y_mov (by conv => lhs; whnf)) ?_
    refine RL.y rfl (y_ext0 rfl) ?_
    refine RL.y rfl (y_ext1 rfl) ?_
    refine RL.y rfl (y_asg (v := .int _ _) rfl) ?_
    refine RL.y rfl (y_asg (v := .int _ _) rfl) ?_
    refine RL.nil ?_
    refine Fin.next ?_
    refine CW.seq ?_
    refine CW.region ?_
    refine RL.y rfl (y_loads ag25 rfl (eqw (hV12)) rfl) ?_
    refine RL.y rfl (y_loads ag28 rfl (eqw (hV13)) rfl) ?_
    refine RL.y rfl (y_mov (v := .int _ _) rfl) ?_
    refine RL.y rfl (y_mov (v := .int _ _) rfl) ?_
    refine RL.call rfl (specCountMayOpen_any ho9x2.rd) ?_
    rintro r w15 ⟨rfl, hX15⟩
    have hsz15 := hX15.size
    replace ho2x2 := ho2x2.ext hX15
    replace ho2x3 := ho2x3.ext hX15
    replace ho9x2 := ho9x2.ext hX15
    replace hV5 := hV5.ext hX15
    replace hV6 := hV6.ext hX15
    replace hV12 := hV12.ext hX15
    replace hV13 := hV13.ext hX15
    have hE15 := hE14.trans hX15
    refine RL.y rfl (y_mov (by conv => lhs; whnf)) ?_
    refine RL.y rfl (y_ext0 rfl) ?_
    refine RL.y rfl (y_ext1 rfl) ?_
    refine RL.y rfl (y_asg (v := .int _ _) rfl) ?_
    refine RL.y rfl (y_asg (v := .int _ _) rfl) ?_
    refine RL.nil ?_
    refine Fin.next ?_
    refine CW.seq ?_
    refine CW.seq ?_
    refine CW.region ?_
    refine RL.y rfl (y_mov (v := .int _ _) rfl) ?_
    refine RL.y rfl (y_mov (v := .int _ _) rfl) ?_
    refine RL.y rfl (y_ne rfl rfl) ?_
    refine RL.y rfl (y_mov (v := .bool _) rfl) ?_
    refine RL.force (t := 76) false rfl rfl (by first | (simp; done) | exact decide_eq_false (by omega) | (simp [*]; done) | assumption) ?_
    refine RL.take (t := 76) rfl rfl rfl ?_
    refine RL.y rfl (y_mov (v := .int _ _) rfl) ?_
    refine RL.take (t := 76) rfl rfl rfl ?_
    refine RL.y rfl (y_mov (v := .int _ _) rfl) ?_
    refine RL.take (t := 76) rfl rfl rfl ?_
    refine RL.y rfl (y_ne rfl rfl) ?_
    refine RL.y rfl (y_pickF (v := .bool _) rfl rfl) ?_
    refine RL.y rfl (y_mov (v := .bool _) rfl) ?_
    refine RL.force (t := 81) false rfl rfl (by first | (simp; done) | exact decide_eq_false (by omega) | (simp [*]; done) | assumption) ?_
    refine RL.take (t := 81) rfl rfl rfl ?_
    refine RL.y rfl (y_mov (v := .int _ _) rfl) ?_
    refine RL.take (t := 81) rfl rfl rfl ?_
    refine RL.y rfl (y_mov (v := .int _ _) rfl) ?_
    refine RL.take (t := 81) rfl rfl rfl ?_
    refine RL.y rfl (y_ne rfl rfl) ?_
    refine RL.y rfl (y_pickF (v := .bool _) rfl rfl) ?_
    refine RL.y rfl (y_mov (v := .bool _) rfl) ?_
    refine RL.force (t := 86) false rfl rfl (by first | (simp; done) | exact decide_eq_false (by omega) | (simp [*]; done) | assumption) ?_
    refine RL.take (t := 86) rfl rfl rfl ?_
    refine RL.y rfl (y_mov (v := .int _ _) rfl) ?_
    refine RL.take (t := 86) rfl rfl rfl ?_
    refine RL.y rfl (y_mov (v := .int _ _) rfl) ?_
    refine RL.take (t := 86) rfl rfl rfl ?_
    refine RL.y rfl (y_ne rfl rfl) ?_
    refine RL.y rfl (y_pickF (v := .bool _) rfl rfl) ?_
    refine RL.nil ?_
    refine Fin.next ?_
    refine CW.condF rfl (by first | (simp; done) | exact decide_eq_false (by omega) | (simp [*]; done) | assumption) ?_
    refine CW.skip ?_
    refine Fin.next ?_
    refine CW.seq ?_
    refine CW.seq ?_
    refine CW.region ?_
    refine RL.y rfl (y_mov (v := .int _ _) rfl) ?_
    refine RL.y rfl (y_eq rfl rfl) ?_
    refine RL.nil ?_
    refine Fin.next ?_
    refine CW.cond rfl rfl (fun h1 => ?_) (fun h1 => ?_)
    · with_reducible first | (replace h1 := deNF h1) | (replace h1 := of_decide_eq_true h1) | (replace h1 := of_decide_eq_false h1) | (replace h1 := deNT h1) | (replace h1 := deNN h1) | (replace h1 := bnT h1) | (replace h1 := bnF h1) | skip
      obtain ⟨e1, e2⟩ := count_facts h1
      refine CW.seq ?_
      refine CW.region ?_
      refine RL.y rfl (y_loads ag25 rfl (eqw (hV12)) rfl) ?_
      refine RL.y rfl (y_loads ag28 rfl (eqw (hV13)) rfl) ?_
      refine RL.call rfl (implCountOpeners_any ho9x2.rd) ?_
      rintro r w16 ⟨rfl, hX16⟩
      have hsz16 := hX16.size
      replace ho2x2 := ho2x2.ext hX16
      replace ho2x3 := ho2x3.ext hX16
      replace ho9x2 := ho9x2.ext hX16
      replace hV5 := hV5.ext hX16
      replace hV6 := hV6.ext hX16
      replace hV12 := hV12.ext hX16
      replace hV13 := hV13.ext hX16
      have hE16 := hE15.trans hX16
      refine RL.y rfl (y_mov (by conv => lhs; whnf)) ?_
      refine RL.y rfl (y_ext0 rfl) ?_
      refine RL.y rfl (y_ext1 rfl) ?_
      refine RL.y rfl (y_asg (v := .int _ _) rfl) ?_
      refine RL.y rfl (y_asg (v := .int _ _) rfl) ?_
      refine RL.nil ?_
      refine Fin.next ?_
      refine CW.seq ?_
      refine CW.region ?_
      refine RL.y rfl (y_mov (v := .int _ _) rfl) ?_
      refine RL.y rfl (y_ne rfl rfl) ?_
      refine RL.y rfl (y_mov (v := .bool _) rfl) ?_
      refine RL.force (t := 101) false rfl rfl (by first | (simp; done) | exact decide_eq_false (by omega) | (simp [*]; done) | assumption) ?_
      refine RL.take (t := 101) rfl rfl rfl ?_
      refine RL.y rfl (y_mov (v := .int _ _) rfl) ?_
      refine RL.take (t := 101) rfl rfl rfl ?_
      refine RL.y rfl (y_mov (v := .int _ _) rfl) ?_
      refine RL.take (t := 101) rfl rfl rfl ?_
      refine RL.y rfl (y_gt rfl rfl) ?_
      refine RL.y rfl (y_pickF (v := .bool _) rfl rfl) ?_
      refine RL.nil ?_
      refine Fin.next ?_
      refine CW.condF rfl (by first | (simp; done) | exact decide_eq_false (by omega) | (simp [*]; done) | assumption) ?_
      refine CW.skip ?_
      refine Fin.next ?_
      refine CW.seq ?_
      refine CW.seq ?_
      refine CW.region ?_
      refine RL.y rfl (y_mov (v := .int _ _) rfl) ?_
      refine RL.y rfl (y_ne rfl rfl) ?_
      refine RL.nil ?_
      refine Fin.next ?_
      refine CW.cond rfl rfl (fun h2 => ?_) (fun h2 => ?_)
      · with_reducible first | (replace h2 := deNF h2) | (replace h2 := of_decide_eq_true h2) | (replace h2 := of_decide_eq_false h2) | (replace h2 := deNT h2) | (replace h2 := deNN h2) | (replace h2 := bnT h2) | (replace h2 := bnF h2) | skip
        refine CW.seq ?_
        refine CW.region ?_
        refine RL.y rfl (y_asg rfl) ?_
        refine RL.nil ?_
        refine Fin.next ?_
        refine CW.ret ?_
        refine Fin.thenRet ?_
        refine Fin.ret1 rfl (by conv => lhs; whnf) ?_
        exact ⟨_, rfl, rfl, hE16⟩
      · with_reducible first | (replace h2 := deNF h2) | (replace h2 := of_decide_eq_true h2) | (replace h2 := of_decide_eq_false h2) | (replace h2 := deNT h2) | (replace h2 := deNN h2) | (replace h2 := bnT h2) | (replace h2 := bnF h2) | skip
        obtain ⟨f0, f1, f2, f3⟩ := limit_facts h2
        refine CW.skip ?_
        refine Fin.next ?_
        refine CW.seq ?_
        refine CW.region ?_
        refine RL.y rfl (y_loads ag25 rfl (eqw (hV5)) rfl) ?_
        refine RL.y rfl (y_loads ag28 rfl (eqw (hV6)) rfl) ?_
        refine RL.y rfl (y_mov (by conv => lhs; whnf)) ?_
        refine RL.y rfl (y_mov (v := .int _ _) rfl) ?_
        refine RL.y rfl (y_mov (v := .int _ _) rfl) ?_
        refine RL.call rfl (implSurelyOpens_any ho2x2.rd ho2x3.rd) ?_
        rintro r w17 ⟨rfl, hX17⟩
        have hsz17 := hX17.size
        replace ho2x2 := ho2x2.ext hX17
        replace ho2x3 := ho2x3.ext hX17
        replace ho9x2 := ho9x2.ext hX17
        replace hV5 := hV5.ext hX17
        replace hV6 := hV6.ext hX17
        replace hV12 := hV12.ext hX17
        replace hV13 := hV13.ext hX17
        have hE17 := hE16.trans hX17
        refine RL.y rfl (y_mov (by conv => lhs; whnf)) ?_
        refine RL.y rfl (y_ext0 rfl) ?_
        refine RL.y rfl (y_ext1 rfl) ?_
        refine RL.y rfl (y_asg (v := .bool _) rfl) ?_
        refine RL.y rfl (y_asg (v := .int _ _) rfl) ?_
        refine RL.nil ?_
        refine Fin.next ?_
        refine CW.seq ?_
        refine CW.seq ?_
        refine CW.region ?_
        refine RL.y rfl (y_mov (v := .int _ _) rfl) ?_
        refine RL.y rfl (y_ne rfl rfl) ?_
        refine RL.y rfl (y_mov (v := .bool _) rfl) ?_
        refine RL.force (t := 119) false rfl rfl (by first | (simp; done) | exact decide_eq_false (by omega) | (simp [*]; done) | assumption) ?_
        refine RL.take (t := 119) rfl rfl rfl ?_
        refine RL.y rfl (y_mov (v := .bool _) rfl) ?_
        refine RL.take (t := 119) rfl rfl rfl ?_
        refine RL.y rfl (y_not rfl) ?_
        refine RL.y rfl (y_pickF (v := .bool _) rfl rfl) ?_
        refine RL.nil ?_
        refine Fin.next ?_
        refine CW.condF rfl (by first | (simp; done) | exact decide_eq_false (by omega) | (simp [*]; done) | assumption) ?_
        refine CW.skip ?_
        refine Fin.next ?_
        refine CW.seq ?_
        refine CW.seq ?_
        refine CW.region ?_
        refine RL.y rfl (y_mov (v := .int _ _) rfl) ?_
        refine RL.y rfl (y_eq rfl rfl) ?_
        refine RL.nil ?_
        refine Fin.next ?_
        refine CW.cond rfl rfl (fun h3 => ?_) (fun h3 => ?_)
        · with_reducible first | (replace h3 := deNF h3) | (replace h3 := of_decide_eq_true h3) | (replace h3 := of_decide_eq_false h3) | (replace h3 := deNT h3) | (replace h3 := deNN h3) | (replace h3 := bnT h3) | (replace h3 := bnF h3) | skip
          refine CW.seq ?_
          refine CW.region ?_
          refine RL.y rfl (y_asg rfl) ?_
          refine RL.nil ?_
          refine Fin.next ?_
          refine CW.ret ?_
          refine Fin.thenRet ?_
          refine Fin.ret1 rfl (by conv => lhs; whnf) ?_
          exact ⟨_, rfl, rfl, hE17⟩
        · with_reducible first | (replace h3 := deNF h3) | (replace h3 := of_decide_eq_true h3) | (replace h3 := of_decide_eq_false h3) | (replace h3 := deNT h3) | (replace h3 := deNN h3) | (replace h3 := bnT h3) | (replace h3 := bnF h3) | skip
          obtain ⟨f4, f5⟩ := f3 h3
          refine CW.skip ?_
          refine Fin.next ?_
          refine CW.seq ?_
          refine CW.region ?_
          refine RL.y rfl (y_loads ag25 rfl (eqw (hV5)) rfl) ?_
          refine RL.y rfl (y_loads ag28 rfl (eqw (hV6)) rfl) ?_
          refine RL.y rfl (y_mov (by conv => lhs; whnf)) ?_
          refine RL.y rfl (y_mov (v := .int _ _) rfl) ?_
          refine RL.y rfl (y_add rfl rfl (IntWalk.i64_in _ (by omega))) ?_
          refine RL.y rfl (y_mov (v := .int _ _) rfl) ?_
          refine RL.call rfl (implSurelyOpens_any ho2x2.rd ho2x3.rd) ?_
          rintro r w18 ⟨rfl, hX18⟩
          have hsz18 := hX18.size
          replace ho2x2 := ho2x2.ext hX18
          replace ho2x3 := ho2x3.ext hX18
          replace ho9x2 := ho9x2.ext hX18
          replace hV5 := hV5.ext hX18
          replace hV6 := hV6.ext hX18
          replace hV12 := hV12.ext hX18
          replace hV13 := hV13.ext hX18
          have hE18 := hE17.trans hX18
          refine RL.y rfl (y_mov (by conv => lhs; whnf)) ?_
          refine RL.y rfl (y_ext0 rfl) ?_
          refine RL.y rfl (y_ext1 rfl) ?_
          refine RL.y rfl (y_asg (v := .bool _) rfl) ?_
          refine RL.y rfl (y_asg (v := .int _ _) rfl) ?_
          refine RL.nil ?_
          refine Fin.next ?_
          refine CW.seq ?_
          refine CW.region ?_
          refine RL.y rfl (y_mov (v := .int _ _) rfl) ?_
          refine RL.y rfl (y_eq rfl rfl) ?_
          refine RL.y rfl (y_mov (v := .bool _) rfl) ?_
          refine RL.force (t := 137) true rfl rfl ((decide_eq_true f4)) ?_
          refine RL.take (t := 137) rfl rfl rfl ?_
          refine RL.y rfl (y_mov (v := .bool _) rfl) ?_
          refine RL.take (t := 137) rfl rfl rfl ?_
          refine RL.y rfl (y_not rfl) ?_
          refine RL.y rfl (y_pickT (v := .bool _) rfl rfl) ?_
          refine RL.y rfl (y_asg (v := .bool _) rfl) ?_
          refine RL.nil ?_
          refine Fin.next ?_
          refine CW.ret ?_
          refine Fin.ret1 rfl (by conv => lhs; whnf) ?_
          exact ⟨_, rfl, congrArg Value.bool (by simp [f5]), hE18⟩
    · with_reducible first | (replace h1 := deNF h1) | (replace h1 := of_decide_eq_true h1) | (replace h1 := of_decide_eq_false h1) | (replace h1 := deNT h1) | (replace h1 := deNN h1) | (replace h1 := bnT h1) | (replace h1 := bnF h1) | skip
      refine CW.skip ?_
      refine Fin.next ?_
      refine CW.seq ?_
      refine CW.seq ?_
      refine CW.region ?_
      refine RL.y rfl (y_mov (v := .int _ _) rfl) ?_
      refine RL.y rfl (y_ne rfl rfl) ?_
      refine RL.nil ?_
      refine Fin.next ?_
      refine CW.cond rfl rfl (fun h2 => ?_) (fun h2 => ?_)
      · with_reducible first | (replace h2 := deNF h2) | (replace h2 := of_decide_eq_true h2) | (replace h2 := of_decide_eq_false h2) | (replace h2 := deNT h2) | (replace h2 := deNN h2) | (replace h2 := bnT h2) | (replace h2 := bnF h2) | skip
        refine CW.seq ?_
        refine CW.region ?_
        refine RL.y rfl (y_asg rfl) ?_
        refine RL.nil ?_
        refine Fin.next ?_
        refine CW.ret ?_
        refine Fin.thenRet ?_
        refine Fin.ret1 rfl (by conv => lhs; whnf) ?_
        exact ⟨_, rfl, rfl, hE15⟩
      · with_reducible first | (replace h2 := deNF h2) | (replace h2 := of_decide_eq_true h2) | (replace h2 := of_decide_eq_false h2) | (replace h2 := deNT h2) | (replace h2 := deNN h2) | (replace h2 := bnT h2) | (replace h2 := bnF h2) | skip
        obtain ⟨f0, f1, f2, f3⟩ := limit_facts h2
        refine CW.skip ?_
        refine Fin.next ?_
        refine CW.seq ?_
        refine CW.region ?_
        refine RL.y rfl (y_loads ag25 rfl (eqw (hV5)) rfl) ?_
        refine RL.y rfl (y_loads ag28 rfl (eqw (hV6)) rfl) ?_
        refine RL.y rfl (y_mov (by conv => lhs; whnf)) ?_
        refine RL.y rfl (y_mov (v := .int _ _) rfl) ?_
        refine RL.y rfl (y_mov (v := .int _ _) rfl) ?_
        refine RL.call rfl (implSurelyOpens_any ho2x2.rd ho2x3.rd) ?_
        rintro r w19 ⟨rfl, hX19⟩
        have hsz19 := hX19.size
        replace ho2x2 := ho2x2.ext hX19
        replace ho2x3 := ho2x3.ext hX19
        replace ho9x2 := ho9x2.ext hX19
        replace hV5 := hV5.ext hX19
        replace hV6 := hV6.ext hX19
        replace hV12 := hV12.ext hX19
        replace hV13 := hV13.ext hX19
        have hE19 := hE15.trans hX19
        refine RL.y rfl (y_mov (by conv => lhs; whnf)) ?_
        refine RL.y rfl (y_ext0 rfl) ?_
        refine RL.y rfl (y_ext1 rfl) ?_
        refine RL.y rfl (y_asg (v := .bool _) rfl) ?_
        refine RL.y rfl (y_asg (v := .int _ _) rfl) ?_
        refine RL.nil ?_
        refine Fin.next ?_
        refine CW.seq ?_
        refine CW.seq ?_
        refine CW.region ?_
        refine RL.y rfl (y_mov (v := .int _ _) rfl) ?_
        refine RL.y rfl (y_ne rfl rfl) ?_
        refine RL.y rfl (y_mov (v := .bool _) rfl) ?_
        refine RL.force (t := 119) false rfl rfl (by first | (simp; done) | exact decide_eq_false (by omega) | (simp [*]; done) | assumption) ?_
        refine RL.take (t := 119) rfl rfl rfl ?_
        refine RL.y rfl (y_mov (v := .bool _) rfl) ?_
        refine RL.take (t := 119) rfl rfl rfl ?_
        refine RL.y rfl (y_not rfl) ?_
        refine RL.y rfl (y_pickF (v := .bool _) rfl rfl) ?_
        refine RL.nil ?_
        refine Fin.next ?_
        refine CW.condF rfl (by first | (simp; done) | exact decide_eq_false (by omega) | (simp [*]; done) | assumption) ?_
        refine CW.skip ?_
        refine Fin.next ?_
        refine CW.seq ?_
        refine CW.seq ?_
        refine CW.region ?_
        refine RL.y rfl (y_mov (v := .int _ _) rfl) ?_
        refine RL.y rfl (y_eq rfl rfl) ?_
        refine RL.nil ?_
        refine Fin.next ?_
        refine CW.cond rfl rfl (fun h3 => ?_) (fun h3 => ?_)
        · with_reducible first | (replace h3 := deNF h3) | (replace h3 := of_decide_eq_true h3) | (replace h3 := of_decide_eq_false h3) | (replace h3 := deNT h3) | (replace h3 := deNN h3) | (replace h3 := bnT h3) | (replace h3 := bnF h3) | skip
          refine CW.seq ?_
          refine CW.region ?_
          refine RL.y rfl (y_asg rfl) ?_
          refine RL.nil ?_
          refine Fin.next ?_
          refine CW.ret ?_
          refine Fin.thenRet ?_
          refine Fin.ret1 rfl (by conv => lhs; whnf) ?_
          exact ⟨_, rfl, rfl, hE19⟩
        · with_reducible first | (replace h3 := deNF h3) | (replace h3 := of_decide_eq_true h3) | (replace h3 := of_decide_eq_false h3) | (replace h3 := deNT h3) | (replace h3 := deNN h3) | (replace h3 := bnT h3) | (replace h3 := bnF h3) | skip
          obtain ⟨f4, f5⟩ := f3 h3
          refine CW.skip ?_
          refine Fin.next ?_
          refine CW.seq ?_
          refine CW.region ?_
          refine RL.y rfl (y_loads ag25 rfl (eqw (hV5)) rfl) ?_
          refine RL.y rfl (y_loads ag28 rfl (eqw (hV6)) rfl) ?_
          refine RL.y rfl (y_mov (by conv => lhs; whnf)) ?_
          refine RL.y rfl (y_mov (v := .int _ _) rfl) ?_
          refine RL.y rfl (y_add rfl rfl (IntWalk.i64_in _ (by omega))) ?_
          refine RL.y rfl (y_mov (v := .int _ _) rfl) ?_
          refine RL.call rfl (implSurelyOpens_any ho2x2.rd ho2x3.rd) ?_
          rintro r w20 ⟨rfl, hX20⟩
          have hsz20 := hX20.size
          replace ho2x2 := ho2x2.ext hX20
          replace ho2x3 := ho2x3.ext hX20
          replace ho9x2 := ho9x2.ext hX20
          replace hV5 := hV5.ext hX20
          replace hV6 := hV6.ext hX20
          replace hV12 := hV12.ext hX20
          replace hV13 := hV13.ext hX20
          have hE20 := hE19.trans hX20
          refine RL.y rfl (y_mov (by conv => lhs; whnf)) ?_
          refine RL.y rfl (y_ext0 rfl) ?_
          refine RL.y rfl (y_ext1 rfl) ?_
          refine RL.y rfl (y_asg (v := .bool _) rfl) ?_
          refine RL.y rfl (y_asg (v := .int _ _) rfl) ?_
          refine RL.nil ?_
          refine Fin.next ?_
          refine CW.seq ?_
          refine CW.region ?_
          refine RL.y rfl (y_mov (v := .int _ _) rfl) ?_
          refine RL.y rfl (y_eq rfl rfl) ?_
          refine RL.y rfl (y_mov (v := .bool _) rfl) ?_
          refine RL.force (t := 137) true rfl rfl ((decide_eq_true f4)) ?_
          refine RL.take (t := 137) rfl rfl rfl ?_
          refine RL.y rfl (y_mov (v := .bool _) rfl) ?_
          refine RL.take (t := 137) rfl rfl rfl ?_
          refine RL.y rfl (y_not rfl) ?_
          refine RL.y rfl (y_pickT (v := .bool _) rfl rfl) ?_
          refine RL.y rfl (y_asg (v := .bool _) rfl) ?_
          refine RL.nil ?_
          refine Fin.next ?_
          refine CW.ret ?_
          refine Fin.ret1 rfl (by conv => lhs; whnf) ?_
          exact ⟨_, rfl, congrArg Value.bool (by simp [f5]), hE20⟩
namespace fnWearLimits
open Go.ChangeShapes Go.WideShapes Go.ChangeAt Go.RowKit
set_option linter.unusedVariables false
theorem own : ownKnob Try.prog.godebug = none := by kernel_rfl
theorem laidOut : laidOutB Try.prog = true := by kernel_rfl
set_option maxRecDepth 100000 in
theorem lifted (os : Os) (started : os.Started) (H : Type) (enc : TypeId × Value → H) :
    ReturnsInHanded {} Try.checked os 3 .any (Rows.fnWearLimitsSpec.pre6 enc Try.prog Try.f3 Rows.fnWearLimitsRow.domain false) (Rows.fnWearLimitsSpec.post enc Try.prog Try.f3 false true false false) := by
  refine returnsInHanded_of_change (C := Try.checked) own started (by kernel_rfl) Try.func3
    (ChangeSpec.witness6 (enc := enc) (C := Try.checked) false ⟨#[], #[.slice none 0 0], []⟩ 8 (by kernel_rfl) (by kernel_rfl) (by kernel_rfl) (by kernel_rfl)) ?_
  intro W base args ds gs before hval0 hW hcnd _
  have hval : ∀ (j : Nat) t v, Try.f3.params[j]? = some t → args[j]? = some v → Value.okWide Try.prog W .any base t v := hval0
  have hW' := hW
  obtain ⟨p, q, hA0, hV, rfl, hfz, hnd⟩ := hW
  have hA : DataW.TrodAll enc Try.prog W 0 (fun _ => true) true Try.f3.params.toList args.toList ds p := hA0
  rw [Try.params3] at hA hval
  have hkeep := hA
  obtain ⟨v0, vs0, d0, ds0, p0, q0, hargs, rfl, rfl, h0, r0⟩ := trodAll_cons hA
  obtain ⟨rfl, rfl, rfl⟩ := trodAll_nil r0
  obtain rfl : args = #[v0] := by cases args; simp_all
  obtain ⟨rfl, rfl⟩ := trodVars_none hV
  obtain ⟨l0, hs0⟩ := open_SU8 Try.underlying22 Try.underlying5 (by kernel_rfl) (hval 0 22 v0 rfl rfl) h0
  refine (lawWearLimits W v0 l0 hs0).calls.mono fun e W' ⟨r, he, hr, hg⟩ => ?_
  subst hr
  subst he
  exact ⟨_, rfl, _, _, _, [] ++ [], _, [], hW', trodAll_cons_mk (shut_bool Try.underlying4 _) trodAll_mk0, trodAll_ext laidOut (by kernel_rfl) hkeep hg (fun x hx => hW'.lt x (List.mem_append_left _ hx)), rfl, hg.frame _, fun h => by cases h⟩
theorem over : Rows.fnWearLimitsRow.holds Try.pinned (OpenSpec.ofChange Rows.fnWearLimitsSpec) :=
  OpenClaim.holds_of_wide 3 Try.f3 rfl rfl rfl rfl rfl rfl rfl ⟨rfl, rfl, rfl, rfl, rfl⟩ rfl rfl rfl rfl rfl (by kernel_rfl) Try.func3 (by kernel_rfl)
    (of_decide_eq_true (by kernel_rfl)) (by unfold Func.isWrapper; first | (rw [if_pos (by decide +kernel)]; kernel_rfl) | (rw [if_neg (by decide +kernel)]; exact ⟨rfl, rfl⟩))
    (fun os started H enc _ => lifted os started H enc)
theorem proved : Rows.FnWearLimitsSaid := over
end fnWearLimits
#print axioms fnWearLimits.proved
end Go.Proofs.Ytaepdknmagaokaa
