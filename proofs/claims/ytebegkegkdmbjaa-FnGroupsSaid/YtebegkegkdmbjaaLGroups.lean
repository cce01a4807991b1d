/-
  All nodes are under their common group, and the doors are those under the root; the program's answers are the reference's. No condition.
-/
import Derived.Test.YtebegkegkdmbjaaFDrawB2
import Derived.Test.YtebegkegkdmbjaaFBld6
import Derived.Test.YtebegkegkdmbjaaFRise
import Derived.Test.YtebegkegkdmbjaaBld2
import Derived.Test.YtebegkegkdmbjaaLift6
import Derived.Test.YtebegkegkdmbjaaRows
namespace Go.Proofs.Ytebegkegkdmbjaa
open B Go.RowKit

theorem lawGroups (w : World) (v0 : Value) (l0 : List UInt8) (hs0 : SV w v0 (byts l0)) :
    Does Try.prog 10 #[v0] w (fun r w' => r = .bool true ∧ Ext w w') := by
  refine enter Try.func10 rfl 133 Try.ntmps10 rfl (by kernel_rfl) ?_
  refine CW.seq ?_
  refine CW.region ?_
  refine RL.y rfl (y_asg rfl) ?_
  refine RL.nil ?_
  refine Fin.next ?_
  refine CW.seq ?_
  refine CW.seq ?_
  refine CW.region ?_
  refine RL.y rfl (y_mov (by conv => lhs; whnf)) ?_
  refine RL.call rfl (big_any (hs0.ext (Ext.refl w))) ?_
  rintro r w1 ⟨rfl, rfl⟩
  refine RL.nil ?_
  refine Fin.next ?_
  refine CW.cond rfl rfl (fun hbig => ?_) (fun hbig => ?_)
  · with_reducible first | (replace hbig := deNF hbig) | (replace hbig := of_decide_eq_true hbig) | (replace hbig := of_decide_eq_false hbig) | (replace hbig := deNT hbig) | (replace hbig := deNN hbig) | (replace hbig := bnT hbig) | (replace hbig := bnF hbig) | skip
    refine CW.seq ?_
    refine CW.region ?_
    refine RL.y rfl (y_asg rfl) ?_
    refine RL.nil ?_
    refine Fin.next ?_
    refine CW.ret ?_
    refine Fin.thenRet ?_
    refine Fin.ret1 rfl (by conv => lhs; whnf) ?_
    exact ⟨_, rfl, rfl, (Ext.refl w)⟩
  · with_reducible first | (replace hbig := deNF hbig) | (replace hbig := of_decide_eq_true hbig) | (replace hbig := of_decide_eq_false hbig) | (replace hbig := deNT hbig) | (replace hbig := deNN hbig) | (replace hbig := bnT hbig) | (replace hbig := bnF hbig) | skip
    refine CW.skip ?_
    refine Fin.next ?_
    refine CW.seq ?_
    refine CW.region ?_
    refine RL.y rfl (y_mov (by conv => lhs; whnf)) ?_
    refine RL.call rfl (DrawCommonGroup_any (hs0.ext (Ext.refl w))) ?_
    rintro r w2 ⟨v12, v22, ps2, ds2, ns2, rfl, ho2x1, ho2x2, _, _, hX2⟩
    have hsz2 := hX2.size
    have hE2 := hX2
    replace ho2x1 := RuB.of ho2x1
    obtain ⟨vp2x, vd2x, rfl, _⟩ := id ho2x1
    replace ho2x2 := OU.of ho2x2
    refine RL.y rfl (y_mov (by conv => lhs; whnf)) ?_
    refine RL.y rfl (y_ext0 rfl) ?_
    refine RL.y rfl (y_ext1 rfl) ?_
    refine RL.alloc rfl ze28 (fun w3 hV3 hX3 => ?_)
    have hsz3 := hX3.size
    replace ho2x1 := ho2x1.ext hX3
    replace ho2x2 := ho2x2.ext hX3
    have hE3 := hE2.trans hX3
    have hlt3 := hV3.lt
    refine RL.stores ag28 (hV3) rfl rfl rfl rfl (ho2x1.one) (fun w4 hV4 hg4 => ?_)
    have hM4 := grown_mod (B := w2.heap.size) (U := w2.heap.size + 1) hg4 (fun k e => by simp only [Option.some.injEq] at e; omega)
    have hsz4 := hM4.size
    replace ho2x1 := ho2x1.mod hM4 (by omega)
    replace ho2x2 := ho2x2.mod hM4 (by omega)
    have hE4 := Ext.then_mod hE3 hM4 (by omega)
    refine RL.y rfl (y_asg (by conv => lhs; whnf)) ?_
    refine RL.nil ?_
    refine Fin.next ?_
    refine CW.seq ?_
    refine CW.region ?_
    refine RL.y rfl (y_loads ag28 rfl (eqw (hV4)) rfl) ?_
    refine RL.y rfl (y_mov (by conv => lhs; whnf)) ?_
    refine RL.call rfl (implCommonGroup_any ho2x1.rd ho2x2.sv) ?_
    rintro r w5 ⟨rfl, hX5⟩
    have hsz5 := hX5.size
    replace ho2x1 := ho2x1.ext hX5
    replace ho2x2 := ho2x2.ext hX5
    replace hV4 := hV4.ext hX5
    have hE5 := hE4.trans hX5
    refine RL.y rfl (y_mov (by conv => lhs; whnf)) ?_
    refine RL.y rfl (y_ext0 rfl) ?_
    refine RL.y rfl (y_ext1 rfl) ?_
    refine RL.y rfl (y_asg (v := .int _ _) rfl) ?_
    refine RL.y rfl (y_asg (v := .int _ _) rfl) ?_
    refine RL.nil ?_
    refine Fin.next ?_
    refine CW.seq ?_
    refine CW.region ?_
    refine RL.y rfl (y_loads ag28 rfl (eqw (hV4)) rfl) ?_
    refine RL.y rfl (y_mov (by conv => lhs; whnf)) ?_
    refine RL.call rfl (specCommonGroup_any ho2x1.rd ho2x2.sv) ?_
    rintro r w6 ⟨rfl, hX6⟩
    have hsz6 := hX6.size
    replace ho2x1 := ho2x1.ext hX6
    replace ho2x2 := ho2x2.ext hX6
    replace hV4 := hV4.ext hX6
    have hE6 := hE5.trans hX6
    refine RL.y rfl (y_mov (by conv => lhs; whnf)) ?_
    refine RL.y rfl (y_ext0 rfl) ?_
    refine RL.y rfl (y_ext1 rfl) ?_
    refine RL.y rfl (y_asg (v := .int _ _) rfl) ?_
    refine RL.y rfl (y_asg (v := .int _ _) rfl) ?_
    refine RL.nil ?_
    refine Fin.next ?_
    refine CW.seq ?_
    refine CW.region ?_
    refine RL.y rfl (y_mov (by conv => lhs; whnf)) ?_
    refine RL.call rfl (DrawDoorsOf_any (hs0.ext hE6)) ?_
    rintro v w7 ⟨ps7, ds7, ho7x0, _, hX7⟩
    have hsz7 := hX7.size
    replace ho2x1 := ho2x1.ext hX7
    replace ho2x2 := ho2x2.ext hX7
    replace hV4 := hV4.ext hX7
    have hE7 := hE6.trans hX7
    replace ho7x0 := RuB.of ho7x0
    obtain ⟨vp7x, vd7x, rfl, _⟩ := id ho7x0
    refine RL.alloc rfl ze28 (fun w8 hV8 hX8 => ?_)
    have hsz8 := hX8.size
    replace ho2x1 := ho2x1.ext hX8
    replace ho2x2 := ho2x2.ext hX8
    replace ho7x0 := ho7x0.ext hX8
    replace hV4 := hV4.ext hX8
    have hE8 := hE7.trans hX8
    have hlt8 := hV8.lt
    refine RL.stores ag28 (hV8) rfl rfl rfl rfl (ho7x0.one) (fun w9 hV9 hg9 => ?_)
    have hM9 := grown_mod (B := w7.heap.size) (U := w7.heap.size + 1) hg9 (fun k e => by simp only [Option.some.injEq] at e; omega)
    have hsz9 := hM9.size
    replace ho2x1 := ho2x1.mod hM9 (by omega)
    replace ho2x2 := ho2x2.mod hM9 (by omega)
    replace ho7x0 := ho7x0.mod hM9 (by omega)
    replace hV4 := hV4.mod hM9 (by omega)
    have hE9 := Ext.then_mod hE8 hM9 (by omega)
    refine RL.nil ?_
    refine Fin.next ?_
    refine CW.seq ?_
    refine CW.region ?_
    refine RL.y rfl (y_loads ag28 rfl (eqw (hV9)) rfl) ?_
    refine RL.call rfl (implDoorsOf_any ho7x0.rd) ?_
    rintro r w10 ⟨v110, rfl, ho10x1, hX10⟩
    have hsz10 := hX10.size
    replace ho2x1 := ho2x1.ext hX10
    replace ho2x2 := ho2x2.ext hX10
    replace ho7x0 := ho7x0.ext hX10
    replace hV4 := hV4.ext hX10
    replace hV9 := hV9.ext hX10
    have hE10 := hE9.trans hX10
    replace ho10x1 := OU.of ho10x1
    refine RL.y rfl (y_mov (by conv => lhs; whnf)) ?_
    refine RL.y rfl (y_ext0 rfl) ?_
    refine RL.y rfl (y_ext1 rfl) ?_
    refine RL.y rfl (y_asg (by conv => lhs; whnf)) ?_
    refine RL.y rfl (y_asg (v := .int _ _) rfl) ?_
    refine RL.nil ?_
    refine Fin.next ?_
    refine CW.seq ?_
    refine CW.region ?_
    refine RL.y rfl (y_loads ag28 rfl (eqw (hV9)) rfl) ?_
    refine RL.call rfl (specDoorsOf_any ho7x0.rd) ?_
    rintro r w11 ⟨v111, rfl, ho11x1, hX11⟩
    have hsz11 := hX11.size
    replace ho2x1 := ho2x1.ext hX11
    replace ho2x2 := ho2x2.ext hX11
    replace ho7x0 := ho7x0.ext hX11
    replace ho10x1 := ho10x1.ext hX11
    replace hV4 := hV4.ext hX11
    replace hV9 := hV9.ext hX11
    have hE11 := hE10.trans hX11
    replace ho11x1 := OU.of ho11x1
    refine RL.y rfl (y_mov (by conv => lhs; whnf)) ?_
    refine RL.y rfl (y_ext0 rfl) ?_
    refine RL.y rfl (y_ext1 rfl) ?_
    refine RL.y rfl (y_asg (by conv => lhs; whnf)) ?_
    refine RL.y rfl (y_asg (v := .int _ _) rfl) ?_
    refine RL.nil ?_
    refine Fin.next ?_
    refine CW.seq ?_
    refine CW.region ?_
    refine RL.y rfl (y_loads ag28 rfl (eqw (hV9)) rfl) ?_
    refine RL.call rfl (implHeightOf_any ho7x0.rd) ?_
    rintro r w12 ⟨rfl, hX12⟩
    have hsz12 := hX12.size
    replace ho2x1 := ho2x1.ext hX12
    replace ho2x2 := ho2x2.ext hX12
    replace ho7x0 := ho7x0.ext hX12
    replace ho10x1 := ho10x1.ext hX12
    replace ho11x1 := ho11x1.ext hX12
    replace hV4 := hV4.ext hX12
    replace hV9 := hV9.ext hX12
    have hE12 := hE11.trans hX12
    refine RL.y rfl (y_mov (by conv => lhs; whnf)) ?_
    refine RL.y rfl (y_ext0 rfl) ?_
    refine RL.y rfl (y_ext1 rfl) ?_
    refine RL.y rfl (y_asg (v := .int _ _) rfl) ?_
    refine RL.y rfl (y_asg (v := .int _ _) rfl) ?_
    refine RL.nil ?_
    refine Fin.next ?_
    refine CW.seq ?_
    refine CW.region ?_
    refine RL.y rfl (y_loads ag28 rfl (eqw (hV9)) rfl) ?_
    refine RL.call rfl (specHeightOf_any ho7x0.rd) ?_
    rintro r w13 ⟨rfl, hX13⟩
    have hsz13 := hX13.size
    replace ho2x1 := ho2x1.ext hX13
    replace ho2x2 := ho2x2.ext hX13
    replace ho7x0 := ho7x0.ext hX13
    replace ho10x1 := ho10x1.ext hX13
    replace ho11x1 := ho11x1.ext hX13
    replace hV4 := hV4.ext hX13
    replace hV9 := hV9.ext hX13
    have hE13 := hE12.trans hX13
    refine RL.y rfl (y_mov (by conv => lhs; whnf)) ?_
    refine RL.y rfl (y_ext0 rfl) ?_
    refine RL.y rfl (y_ext1 rfl) ?_
    refine RL.y rfl (y_asg (v := .int _ _) rfl) ?_
    refine RL.y rfl (y_asg (v := .int _ _) rfl) ?_
    refine RL.nil ?_
    refine Fin.next ?_
    refine CW.seq ?_
    refine CW.seq ?_
    refine CW.region ?_
    refine RL.y rfl (y_mov (v := .int _ _) rfl) ?_
    refine RL.y rfl (y_mov (v := .int _ _) rfl) ?_
    refine RL.y rfl (y_ne rfl rfl) ?_
    refine RL.y rfl (y_mov (v := .bool _) rfl) ?_
    refine RL.force (t := 67) false rfl rfl (by first | (simp; done) | exact decide_eq_false (by omega) | (simp [*]; done) | assumption) ?_
    refine RL.take (t := 67) rfl rfl rfl ?_
    refine RL.y rfl (y_mov (v := .int _ _) rfl) ?_
    refine RL.take (t := 67) rfl rfl rfl ?_
    refine RL.y rfl (y_mov (v := .int _ _) rfl) ?_
    refine RL.take (t := 67) rfl rfl rfl ?_
    refine RL.y rfl (y_ne rfl rfl) ?_
    refine RL.y rfl (y_pickF (v := .bool _) rfl rfl) ?_
    refine RL.y rfl (y_mov (v := .bool _) rfl) ?_
    refine RL.force (t := 72) false rfl rfl (by first | (simp; done) | exact decide_eq_false (by omega) | (simp [*]; done) | assumption) ?_
    refine RL.take (t := 72) rfl rfl rfl ?_
    refine RL.y rfl (y_mov (v := .int _ _) rfl) ?_
    refine RL.take (t := 72) rfl rfl rfl ?_
    refine RL.y rfl (y_mov (v := .int _ _) rfl) ?_
    refine RL.take (t := 72) rfl rfl rfl ?_
    refine RL.y rfl (y_ne rfl rfl) ?_
    refine RL.y rfl (y_pickF (v := .bool _) rfl rfl) ?_
    refine RL.y rfl (y_mov (v := .bool _) rfl) ?_
    refine RL.force (t := 77) false rfl rfl (by first | (simp; done) | exact decide_eq_false (by omega) | (simp [*]; done) | assumption) ?_
    refine RL.take (t := 77) rfl rfl rfl ?_
    refine RL.y rfl (y_mov (by conv => lhs; whnf)) ?_
    refine RL.take (t := 77) rfl rfl rfl ?_
    refine RL.y rfl (y_mov (by conv => lhs; whnf)) ?_
    refine RL.take (t := 77) rfl rfl rfl ?_
    refine RL.call rfl (likeInts_any ho10x1.sv ho11x1.sv) ?_
    rintro r w14 ⟨rfl, hX14⟩
    have hsz14 := hX14.size
    replace ho2x1 := ho2x1.ext hX14
    replace ho2x2 := ho2x2.ext hX14
    replace ho7x0 := ho7x0.ext hX14
    replace ho10x1 := ho10x1.ext hX14
    replace ho11x1 := ho11x1.ext hX14
    replace hV4 := hV4.ext hX14
    replace hV9 := hV9.ext hX14
    have hE14 := hE13.trans hX14
    refine RL.take (t := 77) rfl rfl rfl ?_
    refine RL.y rfl (y_not rfl) ?_
    refine RL.y rfl (y_pickF (v := .bool _) rfl rfl) ?_
    refine RL.y rfl (y_mov (v := .bool _) rfl) ?_
    refine RL.force (t := 83) false rfl rfl (by first | (simp; done) | exact decide_eq_false (by omega) | (simp [*]; done) | assumption) ?_
    refine RL.take (t := 83) rfl rfl rfl ?_
    refine RL.y rfl (y_mov (v := .int _ _) rfl) ?_
    refine RL.take (t := 83) rfl rfl rfl ?_
    refine RL.y rfl (y_mov (v := .int _ _) rfl) ?_
    refine RL.take (t := 83) rfl rfl rfl ?_
    refine RL.y rfl (y_ne rfl rfl) ?_
    refine RL.y rfl (y_pickF (v := .bool _) rfl rfl) ?_
    refine RL.y rfl (y_mov (v := .bool _) rfl) ?_
    refine RL.force (t := 88) false rfl rfl (by first | (simp; done) | exact decide_eq_false (by omega) | (simp [*]; done) | assumption) ?_
    refine RL.take (t := 88) rfl rfl rfl ?_
    refine RL.y rfl (y_mov (v := .int _ _) rfl) ?_
    refine RL.take (t := 88) rfl rfl rfl ?_
    refine RL.y rfl (y_mov (v := .int _ _) rfl) ?_
    refine RL.take (t := 88) rfl rfl rfl ?_
    refine RL.y rfl (y_ne rfl rfl) ?_
    refine RL.y rfl (y_pickF (v := .bool _) rfl rfl) ?_
    refine RL.nil ?_
    refine Fin.next ?_
    refine CW.condF rfl (by first | (simp; done) | exact decide_eq_false (by omega) | (simp [*]; done) | assumption) ?_
    refine CW.skip ?_
    refine Fin.next ?_
    refine CW.seq ?_
    refine CW.seq ?_
    refine CW.region ?_
    refine RL.y rfl (y_mov (v := .int _ _) rfl) ?_
    refine RL.y rfl (y_eq rfl rfl) ?_
    refine RL.nil ?_
    refine Fin.next ?_
    refine CW.cond rfl rfl (fun hc => ?_) (fun hc => ?_)
    · with_reducible first | (replace hc := deNF hc) | (replace hc := of_decide_eq_true hc) | (replace hc := of_decide_eq_false hc) | (replace hc := deNT hc) | (replace hc := deNN hc) | (replace hc := bnT hc) | (replace hc := bnF hc) | skip
      refine CW.seq ?_
      refine CW.region ?_
      refine RL.y rfl (y_loads ag28 rfl (eqw (hV9)) rfl) ?_
      refine RL.call rfl (implDoorsUnder_any ho7x0.rd) ?_
      rintro r w15 ⟨v115, rfl, ho15x1, hX15⟩
      have hsz15 := hX15.size
      replace ho2x1 := ho2x1.ext hX15
      replace ho2x2 := ho2x2.ext hX15
      replace ho7x0 := ho7x0.ext hX15
      replace ho10x1 := ho10x1.ext hX15
      replace ho11x1 := ho11x1.ext hX15
      replace hV4 := hV4.ext hX15
      replace hV9 := hV9.ext hX15
      have hE15 := hE14.trans hX15
      replace ho15x1 := OU.of ho15x1
      refine RL.y rfl (y_mov (by conv => lhs; whnf)) ?_
      refine RL.y rfl (y_ext0 rfl) ?_
      refine RL.y rfl (y_ext1 rfl) ?_
      refine RL.y rfl (y_asg (by conv => lhs; whnf)) ?_
      refine RL.y rfl (y_asg (v := .int _ _) rfl) ?_
      refine RL.nil ?_
      refine Fin.next ?_
      refine CW.seq ?_
      refine CW.region ?_
      refine RL.y rfl (y_mov (v := .int _ _) rfl) ?_
      refine RL.y rfl (y_ne rfl rfl) ?_
      refine RL.y rfl (y_mov (v := .bool _) rfl) ?_
      refine RL.force (t := 102) false rfl rfl (by first | (simp; done) | exact decide_eq_false (by omega) | (simp [*]; done) | assumption) ?_
      refine RL.take (t := 102) rfl rfl rfl ?_
      refine RL.y rfl (y_mov (by conv => lhs; whnf)) ?_
      refine RL.take (t := 102) rfl rfl rfl ?_
      refine RL.y rfl (y_mov (by conv => lhs; whnf)) ?_
      refine RL.take (t := 102) rfl rfl rfl ?_
      refine RL.call rfl (likeInts_any ho15x1.sv ho10x1.sv) ?_
      rintro r w16 ⟨rfl, hX16⟩
      have hsz16 := hX16.size
      replace ho2x1 := ho2x1.ext hX16
      replace ho2x2 := ho2x2.ext hX16
      replace ho7x0 := ho7x0.ext hX16
      replace ho10x1 := ho10x1.ext hX16
      replace ho11x1 := ho11x1.ext hX16
      replace ho15x1 := ho15x1.ext hX16
      replace hV4 := hV4.ext hX16
      replace hV9 := hV9.ext hX16
      have hE16 := hE15.trans hX16
      refine RL.take (t := 102) rfl rfl rfl ?_
      refine RL.y rfl (y_not rfl) ?_
      refine RL.y rfl (y_pickF (v := .bool _) rfl rfl) ?_
      refine RL.nil ?_
      refine Fin.next ?_
      refine CW.condF rfl (by first | (simp; done) | exact decide_eq_false (by omega) | (simp [*]; done) | assumption) ?_
      refine CW.skip ?_
      refine Fin.next ?_
      refine CW.seq ?_
      refine CW.seq ?_
      refine CW.region ?_
      refine RL.y rfl (y_mov (v := .int _ _) rfl) ?_
      refine RL.y rfl (y_ne rfl rfl) ?_
      refine RL.nil ?_
      refine Fin.next ?_
      refine CW.cond rfl rfl (fun hd => ?_) (fun hd => ?_)
      · with_reducible first | (replace hd := deNF hd) | (replace hd := of_decide_eq_true hd) | (replace hd := of_decide_eq_false hd) | (replace hd := deNT hd) | (replace hd := deNN hd) | (replace hd := bnT hd) | (replace hd := bnF hd) | skip
        refine CW.seq ?_
        refine CW.region ?_
        refine RL.y rfl (y_asg rfl) ?_
        refine RL.nil ?_
        refine Fin.next ?_
        refine CW.ret ?_
        refine Fin.thenRet ?_
        refine Fin.ret1 rfl (by conv => lhs; whnf) ?_
        exact ⟨_, rfl, rfl, hE16⟩
      · with_reducible first | (replace hd := deNF hd) | (replace hd := of_decide_eq_true hd) | (replace hd := of_decide_eq_false hd) | (replace hd := deNT hd) | (replace hd := deNN hd) | (replace hd := bnT hd) | (replace hd := bnF hd) | skip
        have hcg : cgC ps2 ds2 ns2 = 0 := hd
        refine CW.skip ?_
        refine Fin.next ?_
        refine CW.seq ?_
        refine CW.seq ?_
        refine CW.region ?_
        refine RL.y rfl (y_asg rfl) ?_
        refine RL.nil ?_
        refine Fin.next ?_
        refine CW.block ?_
        refine CW.loop (fun m E w' => ∃ i : Nat, m = ns2.length - i ∧ i ≤ ns2.length ∧ agrees E [(3, .pointer (some ⟨w2.heap.size, 0, none⟩)), (4, v22), (5, .int .i64 (cgV ps2 ds2 ns2)), (20, .int .i64 (i : Int))] ∧ Ext w16 w') _ ⟨0, rfl, Nat.zero_le _, ⟨rfl, rfl, rfl, rfl, trivial⟩, Ext.refl _⟩ ?_
        · rintro m E w51 ⟨i, rfl, hki, hagi, hL1⟩
          refine CW.re _ hagi rfl ?_
          clear hagi
          replace ho2x1 := ho2x1.ext hL1
          replace ho2x2 := ho2x2.ext hL1
          replace ho7x0 := ho7x0.ext hL1
          replace ho10x1 := ho10x1.ext hL1
          replace ho11x1 := ho11x1.ext hL1
          replace ho15x1 := ho15x1.ext hL1
          replace hV4 := hV4.ext hL1
          replace hV9 := hV9.ext hL1
          have hE1l := hE16.trans hL1
          refine CW.seq ?_
          refine CW.seq ?_
          refine CW.region ?_
          refine RL.y rfl (y_mov (v := .int _ _) rfl) ?_
          refine RL.y rfl (y_mov (by conv => lhs; whnf)) ?_
          refine RL.y rfl (y_len sT22 ho2x2.sv (ints_len _) rfl) ?_
          refine RL.y rfl (y_lt rfl rfl) ?_
          refine RL.nil ?_
          refine Fin.next ?_
          refine CW.cond rfl rfl (fun hci => ?_) (fun hci => ?_)
          · with_reducible first | (replace hci := deNF hci) | (replace hci := of_decide_eq_true hci) | (replace hci := of_decide_eq_false hci) | (replace hci := deNT hci) | (replace hci := deNN hci) | (replace hci := bnT hci) | (replace hci := bnF hci) | skip
            have hlti : i < ns2.length := by omega
            obtain ⟨hnd, hAB⟩ := cg_facts hcg (List.getElem_mem hlti)
            refine CW.skip ?_
            refine Fin.next ?_
            refine CW.seq ?_
            refine CW.block ?_
            refine CW.seq ?_
            refine CW.tape (Ext _) [10, 9, 7, 6, 5] mixed (by kernel_rfl) (by kernel_rfl) (Ext.drew _) ?_
            refine TL.y rfl rfl (y_loads ag28 rfl (fun _ hC => (hV4).ext hC) rfl) ?_
            refine TL.y rfl rfl (y_mov (by conv => lhs; whnf)) ?_
            refine TL.y rfl rfl (y_mov (v := .int _ _) rfl) ?_
            refine TL.y rfl rfl (y_ixa sT22 (fun _ hC => (ho2x2.sv).ext hC) (k := i) (ints_lt hlti) rfl rfl) ?_
            refine TL.y rfl rfl (y_load sc2 (fun _ hC => (ho2x2.sv).ext hC) (B.ints_at hlti) rfl) ?_
            refine TL.op rfl (fun hC => ?_)
            have hD17 := hC
            have ho2x1z := ho2x1
            have ho2x2z := ho2x2
            have ho7x0z := ho7x0
            have ho10x1z := ho10x1
            have ho11x1z := ho11x1
            have ho15x1z := ho15x1
            replace ho2x1 := ho2x1.ext hD17
            replace ho2x2 := ho2x2.ext hD17
            replace ho7x0 := ho7x0.ext hD17
            replace ho10x1 := ho10x1.ext hD17
            replace ho11x1 := ho11x1.ext hD17
            replace ho15x1 := ho15x1.ext hD17
            replace hV4 := hV4.ext hD17
            replace hV9 := hV9.ext hD17
            have hE17 := hE1l.trans hD17
            have hsz17 := hD17.size
            refine RL.call rfl (implAncestorsOf_any ho2x1.rd) ?_
            rintro r w18 ⟨v118, rfl, ho18x1, hX18⟩
            have hsz18 := hX18.size
            replace ho2x1 := ho2x1.ext hX18
            replace ho2x2 := ho2x2.ext hX18
            replace ho7x0 := ho7x0.ext hX18
            replace ho10x1 := ho10x1.ext hX18
            replace ho11x1 := ho11x1.ext hX18
            replace ho15x1 := ho15x1.ext hX18
            replace hV4 := hV4.ext hX18
            replace hV9 := hV9.ext hX18
            have hE18 := hE17.trans hX18
            replace ho18x1 := OU.of ho18x1
            refine RL.nil ?_
            refine Fin.tl (by first | exact hC | (refine Ext.trans hC ?_; assumption)) ?_
            refine TL.yc rfl rfl (y_mov (by conv => lhs; whnf)) ?_
            refine TL.yc rfl rfl (y_ext0 rfl) ?_
            refine TL.y rfl rfl (y_ext1 rfl) ?_
            refine TL.yc rfl rfl (y_asg (by conv => lhs; whnf)) ?_
            refine TL.yc rfl rfl (y_asg (v := .int _ _) rfl) ?_
            refine TL.nil (fun hC => ?_)
            refine Fin.next ?_
            refine CW.seq ?_
            refine CW.region ?_
            refine RL.y rfl (y_mov (v := .int _ _) rfl) ?_
            refine RL.y rfl (y_ne rfl rfl) ?_
            refine RL.y rfl (y_mov (v := .bool _) rfl) ?_
            refine RL.force (t := 127) false rfl rfl (by first | (simp; done) | exact decide_eq_false (by omega) | (simp [*]; done) | assumption) ?_
            refine RL.take (t := 127) rfl rfl rfl ?_
            refine RL.y rfl (y_mov (by conv => lhs; whnf)) ?_
            refine RL.take (t := 127) rfl rfl rfl ?_
            refine RL.y rfl (y_mov (v := .int _ _) rfl) ?_
            refine RL.take (t := 127) rfl rfl rfl ?_
            refine RL.call rfl (hasInt_any ho18x1.sv) ?_
            rintro r w19 ⟨rfl, rfl⟩
            refine RL.take (t := 127) rfl rfl rfl ?_
            refine RL.y rfl (y_not rfl) ?_
            refine RL.y rfl (y_pickF (v := .bool _) rfl rfl) ?_
            refine RL.nil ?_
            refine Fin.next ?_
            refine CW.condF rfl (by first | (simp; done) | exact decide_eq_false (by omega) | (simp [*]; done) | assumption) ?_
            refine CW.skip ?_
            refine Fin.blockNormal ?_
            refine Fin.next ?_
            refine CW.region ?_
            refine RL.y rfl (y_mov (v := .int _ _) rfl) ?_
            refine RL.y rfl (y_add rfl rfl (IntWalk.i64_in _ (by omega))) ?_
            refine RL.y rfl (y_asg (v := .int _ _) rfl) ?_
            refine RL.nil ?_
            refine Fin.le ?_
            exact ⟨ns2.length - (i + 1), by omega, i + 1, rfl, hlti, ⟨rfl, rfl, rfl, rfl, trivial⟩, ((hL1).trans hD17).trans hX18⟩
          · with_reducible first | (replace hci := deNF hci) | (replace hci := of_decide_eq_true hci) | (replace hci := of_decide_eq_false hci) | (replace hci := deNT hci) | (replace hci := deNN hci) | (replace hci := bnT hci) | (replace hci := bnF hci) | skip
            obtain rfl : ns2.length = i := by omega
            refine CW.exit ?_
            refine Fin.thenExit ?_
            refine Fin.thenExit ?_
            refine Fin.blockHit ?_
            refine Fin.next ?_
            refine CW.seq ?_
            refine CW.region ?_
            refine RL.y rfl (y_asg rfl) ?_
            refine RL.nil ?_
            refine Fin.next ?_
            refine CW.ret ?_
            refine Fin.ret1 rfl (by conv => lhs; whnf) ?_
            exact ⟨_, rfl, rfl, hE1l⟩
    · with_reducible first | (replace hc := deNF hc) | (replace hc := of_decide_eq_true hc) | (replace hc := of_decide_eq_false hc) | (replace hc := deNT hc) | (replace hc := deNN hc) | (replace hc := bnT hc) | (replace hc := bnF hc) | skip
      refine CW.skip ?_
      refine Fin.next ?_
      refine CW.seq ?_
      refine CW.seq ?_
      refine CW.region ?_
      refine RL.y rfl (y_mov (v := .int _ _) rfl) ?_
      refine RL.y rfl (y_ne rfl rfl) ?_
      refine RL.nil ?_
      refine Fin.next ?_
      refine CW.cond rfl rfl (fun hd => ?_) (fun hd => ?_)
      · with_reducible first | (replace hd := deNF hd) | (replace hd := of_decide_eq_true hd) | (replace hd := of_decide_eq_false hd) | (replace hd := deNT hd) | (replace hd := deNN hd) | (replace hd := bnT hd) | (replace hd := bnF hd) | skip
        refine CW.seq ?_
        refine CW.region ?_
        refine RL.y rfl (y_asg rfl) ?_
        refine RL.nil ?_
        refine Fin.next ?_
        refine CW.ret ?_
        refine Fin.thenRet ?_
        refine Fin.ret1 rfl (by conv => lhs; whnf) ?_
        exact ⟨_, rfl, rfl, hE14⟩
      · with_reducible first | (replace hd := deNF hd) | (replace hd := of_decide_eq_true hd) | (replace hd := of_decide_eq_false hd) | (replace hd := deNT hd) | (replace hd := deNN hd) | (replace hd := bnT hd) | (replace hd := bnF hd) | skip
        have hcg : cgC ps2 ds2 ns2 = 0 := hd
        refine CW.skip ?_
        refine Fin.next ?_
        refine CW.seq ?_
        refine CW.seq ?_
        refine CW.region ?_
        refine RL.y rfl (y_asg rfl) ?_
        refine RL.nil ?_
        refine Fin.next ?_
        refine CW.block ?_
        refine CW.loop (fun m E w' => ∃ i : Nat, m = ns2.length - i ∧ i ≤ ns2.length ∧ agrees E [(3, .pointer (some ⟨w2.heap.size, 0, none⟩)), (4, v22), (5, .int .i64 (cgV ps2 ds2 ns2)), (20, .int .i64 (i : Int))] ∧ Ext w14 w') _ ⟨0, rfl, Nat.zero_le _, ⟨rfl, rfl, rfl, rfl, trivial⟩, Ext.refl _⟩ ?_
        · rintro m E w51 ⟨i, rfl, hki, hagi, hL1⟩
          refine CW.re _ hagi rfl ?_
          clear hagi
          replace ho2x1 := ho2x1.ext hL1
          replace ho2x2 := ho2x2.ext hL1
          replace ho7x0 := ho7x0.ext hL1
          replace ho10x1 := ho10x1.ext hL1
          replace ho11x1 := ho11x1.ext hL1
          replace hV4 := hV4.ext hL1
          replace hV9 := hV9.ext hL1
          have hE1l := hE14.trans hL1
          refine CW.seq ?_
          refine CW.seq ?_
          refine CW.region ?_
          refine RL.y rfl (y_mov (v := .int _ _) rfl) ?_
          refine RL.y rfl (y_mov (by conv => lhs; whnf)) ?_
          refine RL.y rfl (y_len sT22 ho2x2.sv (ints_len _) rfl) ?_
          refine RL.y rfl (y_lt rfl rfl) ?_
          refine RL.nil ?_
          refine Fin.next ?_
          refine CW.cond rfl rfl (fun hci => ?_) (fun hci => ?_)
          · with_reducible first | (replace hci := deNF hci) | (replace hci := of_decide_eq_true hci) | (replace hci := of_decide_eq_false hci) | (replace hci := deNT hci) | (replace hci := deNN hci) | (replace hci := bnT hci) | (replace hci := bnF hci) | skip
            have hlti : i < ns2.length := by omega
            obtain ⟨hnd, hAB⟩ := cg_facts hcg (List.getElem_mem hlti)
            refine CW.skip ?_
            refine Fin.next ?_
            refine CW.seq ?_
            refine CW.block ?_
            refine CW.seq ?_
            refine CW.tape (Ext _) [10, 9, 7, 6, 5] mixed (by kernel_rfl) (by kernel_rfl) (Ext.drew _) ?_
            refine TL.y rfl rfl (y_loads ag28 rfl (fun _ hC => (hV4).ext hC) rfl) ?_
            refine TL.y rfl rfl (y_mov (by conv => lhs; whnf)) ?_
            refine TL.y rfl rfl (y_mov (v := .int _ _) rfl) ?_
            refine TL.y rfl rfl (y_ixa sT22 (fun _ hC => (ho2x2.sv).ext hC) (k := i) (ints_lt hlti) rfl rfl) ?_
            refine TL.y rfl rfl (y_load sc2 (fun _ hC => (ho2x2.sv).ext hC) (B.ints_at hlti) rfl) ?_
            refine TL.op rfl (fun hC => ?_)
            have hD20 := hC
            have ho2x1z := ho2x1
            have ho2x2z := ho2x2
            have ho7x0z := ho7x0
            have ho10x1z := ho10x1
            have ho11x1z := ho11x1
            replace ho2x1 := ho2x1.ext hD20
            replace ho2x2 := ho2x2.ext hD20
            replace ho7x0 := ho7x0.ext hD20
            replace ho10x1 := ho10x1.ext hD20
            replace ho11x1 := ho11x1.ext hD20
            replace hV4 := hV4.ext hD20
            replace hV9 := hV9.ext hD20
            have hE20 := hE1l.trans hD20
            have hsz20 := hD20.size
            refine RL.call rfl (implAncestorsOf_any ho2x1.rd) ?_
            rintro r w21 ⟨v121, rfl, ho21x1, hX21⟩
            have hsz21 := hX21.size
            replace ho2x1 := ho2x1.ext hX21
            replace ho2x2 := ho2x2.ext hX21
            replace ho7x0 := ho7x0.ext hX21
            replace ho10x1 := ho10x1.ext hX21
            replace ho11x1 := ho11x1.ext hX21
            replace hV4 := hV4.ext hX21
            replace hV9 := hV9.ext hX21
            have hE21 := hE20.trans hX21
            replace ho21x1 := OU.of ho21x1
            refine RL.nil ?_
            refine Fin.tl (by first | exact hC | (refine Ext.trans hC ?_; assumption)) ?_
            refine TL.yc rfl rfl (y_mov (by conv => lhs; whnf)) ?_
            refine TL.yc rfl rfl (y_ext0 rfl) ?_
            refine TL.y rfl rfl (y_ext1 rfl) ?_
            refine TL.yc rfl rfl (y_asg (by conv => lhs; whnf)) ?_
            refine TL.yc rfl rfl (y_asg (v := .int _ _) rfl) ?_
            refine TL.nil (fun hC => ?_)
            refine Fin.next ?_
            refine CW.seq ?_
            refine CW.region ?_
            refine RL.y rfl (y_mov (v := .int _ _) rfl) ?_
            refine RL.y rfl (y_ne rfl rfl) ?_
            refine RL.y rfl (y_mov (v := .bool _) rfl) ?_
            refine RL.force (t := 127) false rfl rfl (by first | (simp; done) | exact decide_eq_false (by omega) | (simp [*]; done) | assumption) ?_
            refine RL.take (t := 127) rfl rfl rfl ?_
            refine RL.y rfl (y_mov (by conv => lhs; whnf)) ?_
            refine RL.take (t := 127) rfl rfl rfl ?_
            refine RL.y rfl (y_mov (v := .int _ _) rfl) ?_
            refine RL.take (t := 127) rfl rfl rfl ?_
            refine RL.call rfl (hasInt_any ho21x1.sv) ?_
            rintro r w22 ⟨rfl, rfl⟩
            refine RL.take (t := 127) rfl rfl rfl ?_
            refine RL.y rfl (y_not rfl) ?_
            refine RL.y rfl (y_pickF (v := .bool _) rfl rfl) ?_
            refine RL.nil ?_
            refine Fin.next ?_
            refine CW.condF rfl (by first | (simp; done) | exact decide_eq_false (by omega) | (simp [*]; done) | assumption) ?_
            refine CW.skip ?_
            refine Fin.blockNormal ?_
            refine Fin.next ?_
            refine CW.region ?_
            refine RL.y rfl (y_mov (v := .int _ _) rfl) ?_
            refine RL.y rfl (y_add rfl rfl (IntWalk.i64_in _ (by omega))) ?_
            refine RL.y rfl (y_asg (v := .int _ _) rfl) ?_
            refine RL.nil ?_
            refine Fin.le ?_
            exact ⟨ns2.length - (i + 1), by omega, i + 1, rfl, hlti, ⟨rfl, rfl, rfl, rfl, trivial⟩, ((hL1).trans hD20).trans hX21⟩
          · with_reducible first | (replace hci := deNF hci) | (replace hci := of_decide_eq_true hci) | (replace hci := of_decide_eq_false hci) | (replace hci := deNT hci) | (replace hci := deNN hci) | (replace hci := bnT hci) | (replace hci := bnF hci) | skip
            obtain rfl : ns2.length = i := by omega
            refine CW.exit ?_
            refine Fin.thenExit ?_
            refine Fin.thenExit ?_
            refine Fin.blockHit ?_
            refine Fin.next ?_
            refine CW.seq ?_
            refine CW.region ?_
            refine RL.y rfl (y_asg rfl) ?_
            refine RL.nil ?_
            refine Fin.next ?_
            refine CW.ret ?_
            refine Fin.ret1 rfl (by conv => lhs; whnf) ?_
            exact ⟨_, rfl, rfl, hE1l⟩
namespace fnGroups
open Go.ChangeShapes Go.WideShapes Go.ChangeAt Go.RowKit
set_option linter.unusedVariables false
theorem own : ownKnob Try.prog.godebug = none := by kernel_rfl
theorem laidOut : laidOutB Try.prog = true := by kernel_rfl
set_option maxRecDepth 100000 in
theorem lifted (os : Os) (started : os.Started) (H : Type) (enc : TypeId × Value → H) :
    ReturnsInHanded {} Try.checked os 10 .any (Rows.fnGroupsSpec.pre6 enc Try.prog Try.f10 Rows.fnGroupsRow.domain false) (Rows.fnGroupsSpec.post enc Try.prog Try.f10 false true false false) := by
  refine returnsInHanded_of_change (C := Try.checked) own started (by kernel_rfl) Try.func10
    (ChangeSpec.witness6 (enc := enc) (C := Try.checked) false ⟨#[], #[.slice none 0 0], []⟩ 8 (by kernel_rfl) (by kernel_rfl) (by kernel_rfl) (by kernel_rfl)) ?_
  intro W base args ds gs before hval0 hW hcnd _
  have hval : ∀ (j : Nat) t v, Try.f10.params[j]? = some t → args[j]? = some v → Value.okWide Try.prog W .any base t v := hval0
  have hW' := hW
  obtain ⟨p, q, hA0, hV, rfl, hfz, hnd⟩ := hW
  have hA : DataW.TrodAll enc Try.prog W 0 (fun _ => true) true Try.f10.params.toList args.toList ds p := hA0
  rw [Try.params10] at hA hval
  have hkeep := hA
  obtain ⟨v0, vs0, d0, ds0, p0, q0, hargs, rfl, rfl, h0, r0⟩ := trodAll_cons hA
  obtain ⟨rfl, rfl, rfl⟩ := trodAll_nil r0
  obtain rfl : args = #[v0] := by cases args; simp_all
  obtain ⟨rfl, rfl⟩ := trodVars_none hV
  obtain ⟨l0, hs0⟩ := open_SU8 Try.underlying44 Try.underlying5 (by kernel_rfl) (hval 0 44 v0 rfl rfl) h0
  refine (lawGroups W v0 l0 hs0).calls.mono fun e W' ⟨r, he, hr, hg⟩ => ?_
  subst hr
  subst he
  exact ⟨_, rfl, _, _, _, [] ++ [], _, [], hW', trodAll_cons_mk (shut_bool Try.underlying4 _) trodAll_mk0, trodAll_ext laidOut (by kernel_rfl) hkeep hg (fun x hx => hW'.lt x (List.mem_append_left _ hx)), rfl, hg.frame _, fun h => by cases h⟩
theorem over : Rows.fnGroupsRow.holds Try.pinned (OpenSpec.ofChange Rows.fnGroupsSpec) :=
  OpenClaim.holds_of_wide 10 Try.f10 rfl rfl rfl rfl rfl rfl rfl ⟨rfl, rfl, rfl, rfl, rfl⟩ rfl rfl rfl rfl rfl (by kernel_rfl) Try.func10 (by kernel_rfl)
    (of_decide_eq_true (by kernel_rfl)) (by unfold Func.isWrapper; first | (rw [if_pos (by decide +kernel)]; kernel_rfl) | (rw [if_neg (by decide +kernel)]; exact ⟨rfl, rfl⟩))
    (fun os started H enc _ => lifted os started H enc)
theorem proved : Rows.FnGroupsSaid := over
end fnGroups
#print axioms fnGroups.proved
end Go.Proofs.Ytebegkegkdmbjaa
