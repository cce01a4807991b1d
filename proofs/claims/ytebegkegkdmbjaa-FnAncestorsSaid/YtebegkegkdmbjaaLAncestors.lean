/-
  Each door is under exactly its ancestors; the program's answers are the reference's. No condition.
-/
import Derived.Test.YtebegkegkdmbjaaFDrawB2
import Derived.Test.YtebegkegkdmbjaaFBld5
import Derived.Test.YtebegkegkdmbjaaFRise
import Derived.Test.YtebegkegkdmbjaaBld2
import Derived.Test.YtebegkegkdmbjaaLift6
import Derived.Test.YtebegkegkdmbjaaRows
namespace Go.Proofs.Ytebegkegkdmbjaa
open B Go.RowKit

theorem lawAncestors (w : World) (v0 : Value) (l0 : List UInt8) (hs0 : SV w v0 (byts l0)) :
    Does Try.prog 9 #[v0] w (fun r w' => r = .bool true ∧ Ext w w') := by
  refine enter Try.func9 rfl 147 Try.ntmps9 rfl (by kernel_rfl) ?_
  refine CW.seq ?_
  refine CW.region ?_
  refine RL.y rfl (y_asg rfl) ?_
  refine RL.nil ?_
  refine Fin.next ?_
  refine CW.seq ?_
  refine CW.seq ?_
  refine CW.region ?_
  refine RL.y rfl (y_mov (by conv => lhs; whnf)) ?_
  refine RL.call rfl (big_any (hs0.ext (Ext.refl w))) ?_
  rintro r w1 ⟨rfl, rfl⟩
  refine RL.nil ?_
  refine Fin.next ?_
  refine CW.cond rfl rfl (fun hbig => ?_) (fun hbig => ?_)
  · with_reducible first | (replace hbig := deNF hbig) | (replace hbig := of_decide_eq_true hbig) | (replace hbig := of_decide_eq_false hbig) | (replace hbig := deNT hbig) | (replace hbig := deNN hbig) | (replace hbig := bnT hbig) | (replace hbig := bnF hbig) | skip
    refine CW.seq ?_
    refine CW.region ?_
    refine RL.y rfl (y_asg rfl) ?_
    refine RL.nil ?_
    refine Fin.next ?_
    refine CW.ret ?_
    refine Fin.thenRet ?_
    refine Fin.ret1 rfl (by conv => lhs; whnf) ?_
    exact ⟨_, rfl, rfl, (Ext.refl w)⟩
  · with_reducible first | (replace hbig := deNF hbig) | (replace hbig := of_decide_eq_true hbig) | (replace hbig := of_decide_eq_false hbig) | (replace hbig := deNT hbig) | (replace hbig := deNN hbig) | (replace hbig := bnT hbig) | (replace hbig := bnF hbig) | skip
    refine CW.skip ?_
    refine Fin.next ?_
    refine CW.seq ?_
    refine CW.region ?_
    refine RL.y rfl (y_mov (by conv => lhs; whnf)) ?_
    refine RL.call rfl (DrawDoorsUnder_any (hs0.ext (Ext.refl w))) ?_
    rintro r w2 ⟨v12, ps2, ds2, x2, rfl, ho2x1, _, hX2⟩
    have hsz2 := hX2.size
    have hE2 := hX2
    replace ho2x1 := RuB.of ho2x1
    obtain ⟨vp2x, vd2x, rfl, _⟩ := id ho2x1
    refine RL.y rfl (y_mov (by conv => lhs; whnf)) ?_
    refine RL.y rfl (y_ext0 rfl) ?_
    refine RL.y rfl (y_ext1 rfl) ?_
    refine RL.alloc rfl ze28 (fun w3 hV3 hX3 => ?_)
    have hsz3 := hX3.size
    replace ho2x1 := ho2x1.ext hX3
    have hE3 := hE2.trans hX3
    have hlt3 := hV3.lt
    refine RL.stores ag28 (hV3) rfl rfl rfl rfl (ho2x1.one) (fun w4 hV4 hg4 => ?_)
    have hM4 := grown_mod (B := w2.heap.size) (U := w2.heap.size + 1) hg4 (fun k e => by simp only [Option.some.injEq] at e; omega)
    have hsz4 := hM4.size
    replace ho2x1 := ho2x1.mod hM4 (by omega)
    have hE4 := Ext.then_mod hE3 hM4 (by omega)
    refine RL.y rfl (y_asg (v := .int _ _) rfl) ?_
    refine RL.nil ?_
    refine Fin.next ?_
    refine CW.seq ?_
    refine CW.region ?_
    refine RL.y rfl (y_loads ag28 rfl (eqw (hV4)) rfl) ?_
    refine RL.y rfl (y_mov (v := .int _ _) rfl) ?_
    refine RL.call rfl (implDoorsUnder_any ho2x1.rd) ?_
    rintro r w5 ⟨v15, rfl, ho5x1, hX5⟩
    have hsz5 := hX5.size
    replace ho2x1 := ho2x1.ext hX5
    replace hV4 := hV4.ext hX5
    have hE5 := hE4.trans hX5
    replace ho5x1 := OU.of ho5x1
    refine RL.y rfl (y_mov (by conv => lhs; whnf)) ?_
    refine RL.y rfl (y_ext0 rfl) ?_
    refine RL.y rfl (y_ext1 rfl) ?_
    refine RL.y rfl (y_asg (by conv => lhs; whnf)) ?_
    refine RL.y rfl (y_asg (v := .int _ _) rfl) ?_
    refine RL.nil ?_
    refine Fin.next ?_
    refine CW.seq ?_
    refine CW.region ?_
    refine RL.y rfl (y_loads ag28 rfl (eqw (hV4)) rfl) ?_
    refine RL.y rfl (y_mov (v := .int _ _) rfl) ?_
    refine RL.call rfl (specDoorsUnder_any ho2x1.rd) ?_
    rintro r w6 ⟨v16, rfl, ho6x1, hX6⟩
    have hsz6 := hX6.size
    replace ho2x1 := ho2x1.ext hX6
    replace ho5x1 := ho5x1.ext hX6
    replace hV4 := hV4.ext hX6
    have hE6 := hE5.trans hX6
    replace ho6x1 := OU.of ho6x1
    refine RL.y rfl (y_mov (by conv => lhs; whnf)) ?_
    refine RL.y rfl (y_ext0 rfl) ?_
    refine RL.y rfl (y_ext1 rfl) ?_
    refine RL.y rfl (y_asg (by conv => lhs; whnf)) ?_
    refine RL.y rfl (y_asg (v := .int _ _) rfl) ?_
    refine RL.nil ?_
    refine Fin.next ?_
    refine CW.seq ?_
    refine CW.region ?_
    refine RL.y rfl (y_mov (by conv => lhs; whnf)) ?_
    refine RL.call rfl (DrawAncestorsOf_any (hs0.ext hE6)) ?_
    rintro r w7 ⟨v17, ps7, ds7, x7, rfl, ho7x1, _, hX7⟩
    have hsz7 := hX7.size
    replace ho2x1 := ho2x1.ext hX7
    replace ho5x1 := ho5x1.ext hX7
    replace ho6x1 := ho6x1.ext hX7
    replace hV4 := hV4.ext hX7
    have hE7 := hE6.trans hX7
    replace ho7x1 := RuB.of ho7x1
    obtain ⟨vp7x, vd7x, rfl, _⟩ := id ho7x1
    refine RL.y rfl (y_mov (by conv => lhs; whnf)) ?_
    refine RL.y rfl (y_ext0 rfl) ?_
    refine RL.y rfl (y_ext1 rfl) ?_
    refine RL.alloc rfl ze28 (fun w8 hV8 hX8 => ?_)
    have hsz8 := hX8.size
    replace ho2x1 := ho2x1.ext hX8
    replace ho5x1 := ho5x1.ext hX8
    replace ho6x1 := ho6x1.ext hX8
    replace ho7x1 := ho7x1.ext hX8
    replace hV4 := hV4.ext hX8
    have hE8 := hE7.trans hX8
    have hlt8 := hV8.lt
    refine RL.stores ag28 (hV8) rfl rfl rfl rfl (ho7x1.one) (fun w9 hV9 hg9 => ?_)
    have hM9 := grown_mod (B := w7.heap.size) (U := w7.heap.size + 1) hg9 (fun k e => by simp only [Option.some.injEq] at e; omega)
    have hsz9 := hM9.size
    replace ho2x1 := ho2x1.mod hM9 (by omega)
    replace ho5x1 := ho5x1.mod hM9 (by omega)
    replace ho6x1 := ho6x1.mod hM9 (by omega)
    replace ho7x1 := ho7x1.mod hM9 (by omega)
    replace hV4 := hV4.mod hM9 (by omega)
    have hE9 := Ext.then_mod hE8 hM9 (by omega)
    refine RL.y rfl (y_asg (v := .int _ _) rfl) ?_
    refine RL.nil ?_
    refine Fin.next ?_
    refine CW.seq ?_
    refine CW.region ?_
    refine RL.y rfl (y_loads ag28 rfl (eqw (hV9)) rfl) ?_
    refine RL.y rfl (y_mov (v := .int _ _) rfl) ?_
    refine RL.call rfl (implAncestorsOf_any ho7x1.rd) ?_
    rintro r w10 ⟨v110, rfl, ho10x1, hX10⟩
    have hsz10 := hX10.size
    replace ho2x1 := ho2x1.ext hX10
    replace ho5x1 := ho5x1.ext hX10
    replace ho6x1 := ho6x1.ext hX10
    replace ho7x1 := ho7x1.ext hX10
    replace hV4 := hV4.ext hX10
    replace hV9 := hV9.ext hX10
    have hE10 := hE9.trans hX10
    replace ho10x1 := OU.of ho10x1
    refine RL.y rfl (y_mov (by conv => lhs; whnf)) ?_
    refine RL.y rfl (y_ext0 rfl) ?_
    refine RL.y rfl (y_ext1 rfl) ?_
    refine RL.y rfl (y_asg (by conv => lhs; whnf)) ?_
    refine RL.y rfl (y_asg (v := .int _ _) rfl) ?_
    refine RL.nil ?_
    refine Fin.next ?_
    refine CW.seq ?_
    refine CW.region ?_
    refine RL.y rfl (y_loads ag28 rfl (eqw (hV9)) rfl) ?_
    refine RL.y rfl (y_mov (v := .int _ _) rfl) ?_
    refine RL.call rfl (specAncestorsOf_any ho7x1.rd) ?_
    rintro r w11 ⟨v111, rfl, ho11x1, hX11⟩
    have hsz11 := hX11.size
    replace ho2x1 := ho2x1.ext hX11
    replace ho5x1 := ho5x1.ext hX11
    replace ho6x1 := ho6x1.ext hX11
    replace ho7x1 := ho7x1.ext hX11
    replace ho10x1 := ho10x1.ext hX11
    replace hV4 := hV4.ext hX11
    replace hV9 := hV9.ext hX11
    have hE11 := hE10.trans hX11
    replace ho11x1 := OU.of ho11x1
    refine RL.y rfl (y_mov (by conv => lhs; whnf)) ?_
    refine RL.y rfl (y_ext0 rfl) ?_
    refine RL.y rfl (y_ext1 rfl) ?_
    refine RL.y rfl (y_asg (by conv => lhs; whnf)) ?_
    refine RL.y rfl (y_asg (v := .int _ _) rfl) ?_
    refine RL.nil ?_
    refine Fin.next ?_
    refine CW.seq ?_
    refine CW.seq ?_
    refine CW.region ?_
    refine RL.y rfl (y_mov (v := .int _ _) rfl) ?_
    refine RL.y rfl (y_mov (v := .int _ _) rfl) ?_
    refine RL.y rfl (y_ne rfl rfl) ?_
    refine RL.y rfl (y_mov (v := .bool _) rfl) ?_
    refine RL.force (t := 63) false rfl rfl (by first | (simp; done) | exact decide_eq_false (by omega) | (simp [*]; done) | assumption) ?_
    refine RL.take (t := 63) rfl rfl rfl ?_
    refine RL.y rfl (y_mov (by conv => lhs; whnf)) ?_
    refine RL.take (t := 63) rfl rfl rfl ?_
    refine RL.y rfl (y_mov (by conv => lhs; whnf)) ?_
    refine RL.take (t := 63) rfl rfl rfl ?_
    refine RL.call rfl (likeInts_any ho5x1.sv ho6x1.sv) ?_
    rintro r w12 ⟨rfl, hX12⟩
    have hsz12 := hX12.size
    replace ho2x1 := ho2x1.ext hX12
    replace ho5x1 := ho5x1.ext hX12
    replace ho6x1 := ho6x1.ext hX12
    replace ho7x1 := ho7x1.ext hX12
    replace ho10x1 := ho10x1.ext hX12
    replace ho11x1 := ho11x1.ext hX12
    replace hV4 := hV4.ext hX12
    replace hV9 := hV9.ext hX12
    have hE12 := hE11.trans hX12
    refine RL.take (t := 63) rfl rfl rfl ?_
    refine RL.y rfl (y_not rfl) ?_
    refine RL.y rfl (y_pickF (v := .bool _) rfl rfl) ?_
    refine RL.y rfl (y_mov (v := .bool _) rfl) ?_
    refine RL.force (t := 69) false rfl rfl (by first | (simp; done) | exact decide_eq_false (by omega) | (simp [*]; done) | assumption) ?_
    refine RL.take (t := 69) rfl rfl rfl ?_
    refine RL.y rfl (y_mov (v := .int _ _) rfl) ?_
    refine RL.take (t := 69) rfl rfl rfl ?_
    refine RL.y rfl (y_mov (v := .int _ _) rfl) ?_
    refine RL.take (t := 69) rfl rfl rfl ?_
    refine RL.y rfl (y_ne rfl rfl) ?_
    refine RL.y rfl (y_pickF (v := .bool _) rfl rfl) ?_
    refine RL.y rfl (y_mov (v := .bool _) rfl) ?_
    refine RL.force (t := 74) false rfl rfl (by first | (simp; done) | exact decide_eq_false (by omega) | (simp [*]; done) | assumption) ?_
    refine RL.take (t := 74) rfl rfl rfl ?_
    refine RL.y rfl (y_mov (by conv => lhs; whnf)) ?_
    refine RL.take (t := 74) rfl rfl rfl ?_
    refine RL.y rfl (y_mov (by conv => lhs; whnf)) ?_
    refine RL.take (t := 74) rfl rfl rfl ?_
    refine RL.call rfl (likeInts_any ho10x1.sv ho11x1.sv) ?_
    rintro r w13 ⟨rfl, hX13⟩
    have hsz13 := hX13.size
    replace ho2x1 := ho2x1.ext hX13
    replace ho5x1 := ho5x1.ext hX13
    replace ho6x1 := ho6x1.ext hX13
    replace ho7x1 := ho7x1.ext hX13
    replace ho10x1 := ho10x1.ext hX13
    replace ho11x1 := ho11x1.ext hX13
    replace hV4 := hV4.ext hX13
    replace hV9 := hV9.ext hX13
    have hE13 := hE12.trans hX13
    refine RL.take (t := 74) rfl rfl rfl ?_
    refine RL.y rfl (y_not rfl) ?_
    refine RL.y rfl (y_pickF (v := .bool _) rfl rfl) ?_
    refine RL.nil ?_
    refine Fin.next ?_
    refine CW.condF rfl (by first | (simp; done) | exact decide_eq_false (by omega) | (simp [*]; done) | assumption) ?_
    refine CW.skip ?_
    refine Fin.next ?_
    refine CW.seq ?_
    refine CW.seq ?_
    refine CW.region ?_
    refine RL.y rfl (y_mov (v := .int _ _) rfl) ?_
    refine RL.y rfl (y_ne rfl rfl) ?_
    refine RL.nil ?_
    refine Fin.next ?_
    refine CW.cond rfl rfl (fun hc => ?_) (fun hc => ?_)
    · with_reducible first | (replace hc := deNF hc) | (replace hc := of_decide_eq_true hc) | (replace hc := of_decide_eq_false hc) | (replace hc := deNT hc) | (replace hc := deNN hc) | (replace hc := bnT hc) | (replace hc := bnF hc) | skip
      refine CW.seq ?_
      refine CW.region ?_
      refine RL.y rfl (y_asg rfl) ?_
      refine RL.nil ?_
      refine Fin.next ?_
      refine CW.ret ?_
      refine Fin.thenRet ?_
      refine Fin.ret1 rfl (by conv => lhs; whnf) ?_
      exact ⟨_, rfl, rfl, hE13⟩
    · with_reducible first | (replace hc := deNF hc) | (replace hc := of_decide_eq_true hc) | (replace hc := of_decide_eq_false hc) | (replace hc := deNT hc) | (replace hc := deNN hc) | (replace hc := bnT hc) | (replace hc := bnF hc) | skip
      have hroot := ncC_root hc
      have hnil := ncC_nil hc
      have hR := duV_len ps2 ds2 0
      refine CW.skip ?_
      refine Fin.next ?_
      refine CW.seq ?_
      refine CW.region ?_
      refine RL.y rfl (y_loads ag28 rfl (eqw (hV4)) rfl) ?_
      refine RL.call rfl (implDoorsOf_any ho2x1.rd) ?_
      rintro r w14 ⟨v114, rfl, ho14x1, hX14⟩
      have hsz14 := hX14.size
      replace ho2x1 := ho2x1.ext hX14
      replace ho5x1 := ho5x1.ext hX14
      replace ho6x1 := ho6x1.ext hX14
      replace ho7x1 := ho7x1.ext hX14
      replace ho10x1 := ho10x1.ext hX14
      replace ho11x1 := ho11x1.ext hX14
      replace hV4 := hV4.ext hX14
      replace hV9 := hV9.ext hX14
      have hE14 := hE13.trans hX14
      replace ho14x1 := OU.of ho14x1
      refine RL.y rfl (y_mov (by conv => lhs; whnf)) ?_
      refine RL.y rfl (y_ext0 rfl) ?_
      refine RL.y rfl (y_ext1 rfl) ?_
      refine RL.y rfl (y_asg (by conv => lhs; whnf)) ?_
      refine RL.y rfl (y_asg (v := .int _ _) rfl) ?_
      refine RL.nil ?_
      refine Fin.next ?_
      refine CW.seq ?_
      refine CW.region ?_
      refine RL.y rfl (y_loads ag28 rfl (eqw (hV4)) rfl) ?_
      refine RL.call rfl (specDoorsOf_any ho2x1.rd) ?_
      rintro r w15 ⟨v115, rfl, ho15x1, hX15⟩
      have hsz15 := hX15.size
      replace ho2x1 := ho2x1.ext hX15
      replace ho5x1 := ho5x1.ext hX15
      replace ho6x1 := ho6x1.ext hX15
      replace ho7x1 := ho7x1.ext hX15
      replace ho10x1 := ho10x1.ext hX15
      replace ho11x1 := ho11x1.ext hX15
      replace ho14x1 := ho14x1.ext hX15
      replace hV4 := hV4.ext hX15
      replace hV9 := hV9.ext hX15
      have hE15 := hE14.trans hX15
      replace ho15x1 := OU.of ho15x1
      refine RL.y rfl (y_mov (by conv => lhs; whnf)) ?_
      refine RL.y rfl (y_ext0 rfl) ?_
      refine RL.y rfl (y_ext1 rfl) ?_
      refine RL.y rfl (y_asg (by conv => lhs; whnf)) ?_
      refine RL.y rfl (y_asg (v := .int _ _) rfl) ?_
      refine RL.nil ?_
      refine Fin.next ?_
      refine CW.seq ?_
      refine CW.seq ?_
      refine CW.region ?_
      refine RL.y rfl (y_mov (v := .int _ _) rfl) ?_
      refine RL.y rfl (y_mov (v := .int _ _) rfl) ?_
      refine RL.y rfl (y_ne rfl rfl) ?_
      refine RL.y rfl (y_mov (v := .bool _) rfl) ?_
      refine RL.force (t := 95) false rfl rfl (by first | (simp; done) | exact decide_eq_false (by omega) | (simp [*]; done) | assumption) ?_
      refine RL.take (t := 95) rfl rfl rfl ?_
      refine RL.y rfl (y_mov (by conv => lhs; whnf)) ?_
      refine RL.take (t := 95) rfl rfl rfl ?_
      refine RL.y rfl (y_mov (by conv => lhs; whnf)) ?_
      refine RL.take (t := 95) rfl rfl rfl ?_
      refine RL.call rfl (likeInts_any ho14x1.sv ho15x1.sv) ?_
      rintro r w16 ⟨rfl, hX16⟩
      have hsz16 := hX16.size
      replace ho2x1 := ho2x1.ext hX16
      replace ho5x1 := ho5x1.ext hX16
      replace ho6x1 := ho6x1.ext hX16
      replace ho7x1 := ho7x1.ext hX16
      replace ho10x1 := ho10x1.ext hX16
      replace ho11x1 := ho11x1.ext hX16
      replace ho14x1 := ho14x1.ext hX16
      replace ho15x1 := ho15x1.ext hX16
      replace hV4 := hV4.ext hX16
      replace hV9 := hV9.ext hX16
      have hE16 := hE15.trans hX16
      refine RL.take (t := 95) rfl rfl rfl ?_
      refine RL.y rfl (y_not rfl) ?_
      refine RL.y rfl (y_pickF (v := .bool _) rfl rfl) ?_
      refine RL.nil ?_
      refine Fin.next ?_
      refine CW.condF rfl (by first | (simp; done) | exact decide_eq_false (by omega) | (simp [*]; done) | assumption) ?_
      refine CW.skip ?_
      refine Fin.next ?_
      refine CW.seq ?_
      refine CW.region ?_
      refine RL.y rfl (y_loads ag28 rfl (eqw (hV4)) rfl) ?_
      refine RL.call rfl (implHeightOf_any ho2x1.rd) ?_
      rintro r w17 ⟨rfl, hX17⟩
      have hsz17 := hX17.size
      replace ho2x1 := ho2x1.ext hX17
      replace ho5x1 := ho5x1.ext hX17
      replace ho6x1 := ho6x1.ext hX17
      replace ho7x1 := ho7x1.ext hX17
      replace ho10x1 := ho10x1.ext hX17
      replace ho11x1 := ho11x1.ext hX17
      replace ho14x1 := ho14x1.ext hX17
      replace ho15x1 := ho15x1.ext hX17
      replace hV4 := hV4.ext hX17
      replace hV9 := hV9.ext hX17
      have hE17 := hE16.trans hX17
      refine RL.y rfl (y_mov (by conv => lhs; whnf)) ?_
      refine RL.y rfl (y_ext0 rfl) ?_
      refine RL.y rfl (y_ext1 rfl) ?_
      refine RL.y rfl (y_asg (v := .int _ _) rfl) ?_
      refine RL.y rfl (y_asg (v := .int _ _) rfl) ?_
      refine RL.nil ?_
      refine Fin.next ?_
      refine CW.seq ?_
      refine CW.seq ?_
      refine CW.region ?_
      refine RL.y rfl (y_mov (v := .int _ _) rfl) ?_
      refine RL.y rfl (y_ne rfl rfl) ?_
      refine RL.y rfl (y_mov (v := .bool _) rfl) ?_
      refine RL.force (t := 108) false rfl rfl (by first | (simp; done) | exact decide_eq_false (by omega) | (simp [*]; done) | assumption) ?_
      refine RL.take (t := 108) rfl rfl rfl ?_
      refine RL.y rfl (y_mov (v := .int _ _) rfl) ?_
      refine RL.take (t := 108) rfl rfl rfl ?_
      refine RL.y rfl (y_ne rfl rfl) ?_
      refine RL.y rfl (y_pickF (v := .bool _) rfl rfl) ?_
      refine RL.nil ?_
      refine Fin.next ?_
      refine CW.condF rfl (by first | (simp; done) | exact decide_eq_false (by omega) | (simp [*]; done) | assumption) ?_
      refine CW.skip ?_
      refine Fin.next ?_
      refine CW.seq ?_
      refine CW.seq ?_
      refine CW.region ?_
      refine RL.y rfl (y_asg rfl) ?_
      refine RL.nil ?_
      refine Fin.next ?_
      refine CW.block ?_
      refine CW.loop (fun m E w' => ∃ i : Nat, m = (duV ps2 ds2 0).length - i ∧ i ≤ (duV ps2 ds2 0).length ∧ agrees E [(3, .pointer (some ⟨w2.heap.size, 0, none⟩)), (4, .int .i64 x2), (5, v15), (15, v114), (19, .int .i64 (hiV ps2 ds2)), (21, .int .i64 (i : Int))] ∧ Ext w17 w') _ ⟨0, rfl, Nat.zero_le _, ⟨rfl, rfl, rfl, rfl, rfl, rfl, trivial⟩, Ext.refl _⟩ ?_
      · rintro m E w51 ⟨i, rfl, hki, hagi, hL1⟩
        refine CW.re _ hagi rfl ?_
        clear hagi
        replace ho2x1 := ho2x1.ext hL1
        replace ho5x1 := ho5x1.ext hL1
        replace ho6x1 := ho6x1.ext hL1
        replace ho7x1 := ho7x1.ext hL1
        replace ho10x1 := ho10x1.ext hL1
        replace ho11x1 := ho11x1.ext hL1
        replace ho14x1 := ho14x1.ext hL1
        replace ho15x1 := ho15x1.ext hL1
        replace hV4 := hV4.ext hL1
        replace hV9 := hV9.ext hL1
        have hE1l := hE17.trans hL1
        refine CW.seq ?_
        refine CW.seq ?_
        refine CW.region ?_
        refine RL.y rfl (y_mov (v := .int _ _) rfl) ?_
        refine RL.y rfl (y_mov (by conv => lhs; whnf)) ?_
        refine RL.y rfl (y_len sT22 ho14x1.sv (ints_len _) rfl) ?_
        refine RL.y rfl (y_lt rfl rfl) ?_
        refine RL.nil ?_
        refine Fin.next ?_
        refine CW.cond rfl rfl (fun hci => ?_) (fun hci => ?_)
        · with_reducible first | (replace hci := deNF hci) | (replace hci := of_decide_eq_true hci) | (replace hci := of_decide_eq_false hci) | (replace hci := deNT hci) | (replace hci := deNN hci) | (replace hci := bnT hci) | (replace hci := bnF hci) | skip
          have hlti : i < (duV ps2 ds2 0).length := by omega
          obtain ⟨hnd, hAB, hlen⟩ := door_facts hc (List.getElem_mem hlti)
          refine CW.skip ?_
          refine Fin.next ?_
          refine CW.seq ?_
          refine CW.block ?_
          refine CW.seq ?_
          refine CW.tape (Ext _) [10, 9, 7, 6, 5] mixed (by kernel_rfl) (by kernel_rfl) (Ext.drew _) ?_
          refine TL.y rfl rfl (y_loads ag28 rfl (fun _ hC => (hV4).ext hC) rfl) ?_
          refine TL.y rfl rfl (y_mov (by conv => lhs; whnf)) ?_
          refine TL.y rfl rfl (y_mov (v := .int _ _) rfl) ?_
          refine TL.y rfl rfl (y_ixa sT22 (fun _ hC => (ho14x1.sv).ext hC) (k := i) (ints_lt hlti) rfl rfl) ?_
          refine TL.y rfl rfl (y_load sc2 (fun _ hC => (ho14x1.sv).ext hC) (B.ints_at hlti) rfl) ?_
          refine TL.op rfl (fun hC => ?_)
          have hD18 := hC
          have ho2x1z := ho2x1
          have ho5x1z := ho5x1
          have ho6x1z := ho6x1
          have ho7x1z := ho7x1
          have ho10x1z := ho10x1
          have ho11x1z := ho11x1
          have ho14x1z := ho14x1
          have ho15x1z := ho15x1
          replace ho2x1 := ho2x1.ext hD18
          replace ho5x1 := ho5x1.ext hD18
          replace ho6x1 := ho6x1.ext hD18
          replace ho7x1 := ho7x1.ext hD18
          replace ho10x1 := ho10x1.ext hD18
          replace ho11x1 := ho11x1.ext hD18
          replace ho14x1 := ho14x1.ext hD18
          replace ho15x1 := ho15x1.ext hD18
          replace hV4 := hV4.ext hD18
          replace hV9 := hV9.ext hD18
          have hE18 := hE1l.trans hD18
          have hsz18 := hD18.size
          refine RL.call rfl (implAncestorsOf_any ho2x1.rd) ?_
          rintro r w19 ⟨v119, rfl, ho19x1, hX19⟩
          have hsz19 := hX19.size
          replace ho2x1 := ho2x1.ext hX19
          replace ho5x1 := ho5x1.ext hX19
          replace ho6x1 := ho6x1.ext hX19
          replace ho7x1 := ho7x1.ext hX19
          replace ho10x1 := ho10x1.ext hX19
          replace ho11x1 := ho11x1.ext hX19
          replace ho14x1 := ho14x1.ext hX19
          replace ho15x1 := ho15x1.ext hX19
          replace hV4 := hV4.ext hX19
          replace hV9 := hV9.ext hX19
          have hE19 := hE18.trans hX19
          replace ho19x1 := OU.of ho19x1
          refine RL.nil ?_
          refine Fin.tl (by first | exact hC | (refine Ext.trans hC ?_; assumption)) ?_
          refine TL.yc rfl rfl (y_mov (by conv => lhs; whnf)) ?_
          refine TL.yc rfl rfl (y_ext0 rfl) ?_
          refine TL.y rfl rfl (y_ext1 rfl) ?_
          refine TL.yc rfl rfl (y_asg (by conv => lhs; whnf)) ?_
          refine TL.yc rfl rfl (y_asg (v := .int _ _) rfl) ?_
          refine TL.nil (fun hC => ?_)
          refine Fin.next ?_
          refine CW.seq ?_
          refine CW.tape (Ext _) [19, 18, 16, 15, 14, 13, 12, 11, 5] mixed (by kernel_rfl) (by kernel_rfl) (Ext.drew _) ?_
          refine TL.y rfl rfl (y_mov (v := .int _ _) rfl) ?_
          refine TL.y rfl rfl (y_ne rfl rfl) ?_
          refine TL.y rfl rfl (y_mov (v := .bool _) rfl) ?_
          refine TL.force (t := 129) false rfl rfl (by first | (simp; done) | exact decide_eq_false (by omega) | (simp [*]; done) | assumption) ?_
          refine TL.take (t := 129) rfl rfl rfl ?_
          refine TL.y rfl rfl (y_mov (by conv => lhs; whnf)) ?_
          refine TL.take (t := 129) rfl rfl rfl ?_
          refine TL.y rfl rfl (y_mov (v := .int _ _) rfl) ?_
          refine TL.take (t := 129) rfl rfl rfl ?_
          refine TL.op rfl (fun hC => ?_)
          have hD20 := hC
          have ho2x1z := ho2x1
          have ho5x1z := ho5x1
          have ho6x1z := ho6x1
          have ho7x1z := ho7x1
          have ho10x1z := ho10x1
          have ho11x1z := ho11x1
          have ho14x1z := ho14x1
          have ho15x1z := ho15x1
          have ho19x1z := ho19x1
          replace ho2x1 := ho2x1.ext hD20
          replace ho5x1 := ho5x1.ext hD20
          replace ho6x1 := ho6x1.ext hD20
          replace ho7x1 := ho7x1.ext hD20
          replace ho10x1 := ho10x1.ext hD20
          replace ho11x1 := ho11x1.ext hD20
          replace ho14x1 := ho14x1.ext hD20
          replace ho15x1 := ho15x1.ext hD20
          replace ho19x1 := ho19x1.ext hD20
          replace hV4 := hV4.ext hD20
          replace hV9 := hV9.ext hD20
          have hE20 := hE19.trans hD20
          have hsz20 := hD20.size
          refine RL.call rfl (hasInt_any ho19x1.sv) ?_
          rintro r w21 ⟨rfl, rfl⟩
          refine RL.nil ?_
          refine Fin.tl (by first | exact hC | (refine Ext.trans hC ?_; assumption)) ?_
          refine TL.take (t := 129) rfl rfl rfl ?_
          refine TL.y rfl rfl (y_mov (by conv => lhs; whnf)) ?_
          refine TL.take (t := 129) rfl rfl rfl ?_
          refine TL.y rfl rfl (y_mov (by conv => lhs; whnf)) ?_
          refine TL.take (t := 129) rfl rfl rfl ?_
          refine TL.y rfl rfl (y_mov (v := .int _ _) rfl) ?_
          refine TL.take (t := 129) rfl rfl rfl ?_
          refine TL.y rfl rfl (y_ixa sT22 (fun _ hC => (ho14x1z.sv).ext hC) (k := i) (ints_lt hlti) rfl rfl) ?_
          refine TL.take (t := 129) rfl rfl rfl ?_
          refine TL.y rfl rfl (y_load sc2 (fun _ hC => (ho14x1z.sv).ext hC) (B.ints_at hlti) rfl) ?_
          refine TL.take (t := 129) rfl rfl rfl ?_
          refine TL.op rfl (fun hC => ?_)
          refine RL.call rfl (hasInt_any ho5x1.sv) ?_
          rintro r w22 ⟨rfl, rfl⟩
          refine RL.nil ?_
          refine Fin.tl (by first | exact hC | (refine Ext.trans hC ?_; assumption)) ?_
          refine TL.take (t := 129) rfl rfl rfl ?_
          refine TL.yc rfl rfl (y_bne Try.underlying4 rfl rfl) ?_
          refine TL.yc rfl rfl (y_pickF (v := .bool _) rfl rfl) ?_
          refine TL.yc rfl rfl (y_mov (v := .bool _) rfl) ?_
          refine TL.force (t := 141) false rfl rfl ((by simp [hAB])) ?_
          refine TL.take (t := 141) rfl rfl rfl ?_
          refine TL.yc rfl rfl (y_mov (by conv => lhs; whnf)) ?_
          refine TL.take (t := 141) rfl rfl rfl ?_
          refine TL.yc rfl rfl (y_len sT22 ho19x1.sv (ints_len _) rfl) ?_
          refine TL.take (t := 141) rfl rfl rfl ?_
          refine TL.y rfl rfl (y_mov (v := .int _ _) rfl) ?_
          refine TL.take (t := 141) rfl rfl rfl ?_
          refine TL.yc rfl rfl (y_gt rfl rfl) ?_
          refine TL.yc rfl rfl (y_pickF (v := .bool _) rfl rfl) ?_
          refine TL.nil (fun hC => ?_)
          refine Fin.next ?_
          refine CW.condF rfl (by first | (simp; done) | exact decide_eq_false (by omega) | (simp [*]; done) | assumption) ?_
          refine CW.skip ?_
          refine Fin.blockNormal ?_
          refine Fin.next ?_
          refine CW.region ?_
          refine RL.y rfl (y_mov (v := .int _ _) rfl) ?_
          refine RL.y rfl (y_add rfl rfl (IntWalk.i64_in _ (by omega))) ?_
          refine RL.y rfl (y_asg (v := .int _ _) rfl) ?_
          refine RL.nil ?_
          refine Fin.le ?_
          exact ⟨(duV ps2 ds2 0).length - (i + 1), by omega, i + 1, rfl, hlti, ⟨rfl, rfl, rfl, rfl, rfl, rfl, trivial⟩, (((hL1).trans hD18).trans hX19).trans hD20⟩
        · with_reducible first | (replace hci := deNF hci) | (replace hci := of_decide_eq_true hci) | (replace hci := of_decide_eq_false hci) | (replace hci := deNT hci) | (replace hci := deNN hci) | (replace hci := bnT hci) | (replace hci := bnF hci) | skip
          obtain rfl : (duV ps2 ds2 0).length = i := by omega
          refine CW.exit ?_
          refine Fin.thenExit ?_
          refine Fin.thenExit ?_
          refine Fin.blockHit ?_
          refine Fin.next ?_
          refine CW.seq ?_
          refine CW.region ?_
          refine RL.y rfl (y_asg rfl) ?_
          refine RL.nil ?_
          refine Fin.next ?_
          refine CW.ret ?_
          refine Fin.ret1 rfl (by conv => lhs; whnf) ?_
          exact ⟨_, rfl, rfl, hE1l⟩
namespace fnAncestors
open Go.ChangeShapes Go.WideShapes Go.ChangeAt Go.RowKit
set_option linter.unusedVariables false
theorem own : ownKnob Try.prog.godebug = none := by kernel_rfl
theorem laidOut : laidOutB Try.prog = true := by kernel_rfl
set_option maxRecDepth 100000 in
theorem lifted (os : Os) (started : os.Started) (H : Type) (enc : TypeId × Value → H) :
    ReturnsInHanded {} Try.checked os 9 .any (Rows.fnAncestorsSpec.pre6 enc Try.prog Try.f9 Rows.fnAncestorsRow.domain false) (Rows.fnAncestorsSpec.post enc Try.prog Try.f9 false true false false) := by
  refine returnsInHanded_of_change (C := Try.checked) own started (by kernel_rfl) Try.func9
    (ChangeSpec.witness6 (enc := enc) (C := Try.checked) false ⟨#[], #[.slice none 0 0], []⟩ 8 (by kernel_rfl) (by kernel_rfl) (by kernel_rfl) (by kernel_rfl)) ?_
  intro W base args ds gs before hval0 hW hcnd _
  have hval : ∀ (j : Nat) t v, Try.f9.params[j]? = some t → args[j]? = some v → Value.okWide Try.prog W .any base t v := hval0
  have hW' := hW
  obtain ⟨p, q, hA0, hV, rfl, hfz, hnd⟩ := hW
  have hA : DataW.TrodAll enc Try.prog W 0 (fun _ => true) true Try.f9.params.toList args.toList ds p := hA0
  rw [Try.params9] at hA hval
  have hkeep := hA
  obtain ⟨v0, vs0, d0, ds0, p0, q0, hargs, rfl, rfl, h0, r0⟩ := trodAll_cons hA
  obtain ⟨rfl, rfl, rfl⟩ := trodAll_nil r0
  obtain rfl : args = #[v0] := by cases args; simp_all
  obtain ⟨rfl, rfl⟩ := trodVars_none hV
  obtain ⟨l0, hs0⟩ := open_SU8 Try.underlying44 Try.underlying5 (by kernel_rfl) (hval 0 44 v0 rfl rfl) h0
  refine (lawAncestors W v0 l0 hs0).calls.mono fun e W' ⟨r, he, hr, hg⟩ => ?_
  subst hr
  subst he
  exact ⟨_, rfl, _, _, _, [] ++ [], _, [], hW', trodAll_cons_mk (shut_bool Try.underlying4 _) trodAll_mk0, trodAll_ext laidOut (by kernel_rfl) hkeep hg (fun x hx => hW'.lt x (List.mem_append_left _ hx)), rfl, hg.frame _, fun h => by cases h⟩
theorem over : Rows.fnAncestorsRow.holds Try.pinned (OpenSpec.ofChange Rows.fnAncestorsSpec) :=
  OpenClaim.holds_of_wide 9 Try.f9 rfl rfl rfl rfl rfl rfl rfl ⟨rfl, rfl, rfl, rfl, rfl⟩ rfl rfl rfl rfl rfl (by kernel_rfl) Try.func9 (by kernel_rfl)
    (of_decide_eq_true (by kernel_rfl)) (by unfold Func.isWrapper; first | (rw [if_pos (by decide +kernel)]; kernel_rfl) | (rw [if_neg (by decide +kernel)]; exact ⟨rfl, rfl⟩))
    (fun os started H enc _ => lifted os started H enc)
theorem proved : Rows.FnAncestorsSaid := over
end fnAncestors
#print axioms fnAncestors.proved
end Go.Proofs.Ytebegkegkdmbjaa
