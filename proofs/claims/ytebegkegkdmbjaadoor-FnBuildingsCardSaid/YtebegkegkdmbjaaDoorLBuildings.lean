/-
  A building is recovered from its text, and a text from its building; the program's answers are the reference's. Condition: the listed tables of the library hold what the program's text lays.
-/
import Derived.Test.YtebegkegkdmbjaaDoorFDrawR
import Derived.Test.YtebegkegkdmbjaaDoorFLikeB
import Derived.Test.YtebegkegkdmbjaaDoorLift3
import Derived.Test.YtebegkegkdmbjaaDoorLift6
import Derived.Test.YtebegkegkdmbjaaDoorShp
import Derived.Test.YtebegkegkdmbjaaDoorRows
import Derived.Test.YtebegkegkdmbjaaDoorCards
import Derived.Test.YtebegkegkdmbjaaDoorTie
import Derived.ProofKit
import Derived.Lay
import Derived.LaidMore
import Derived.OpenShut
import Derived.Stop.Joined
import Derived.SevenTiedAt
namespace Go.Proofs.YtebegkegkdmbjaaDoor
open B Go.RowKit

set_option maxRecDepth 8000 in
theorem lawBuildings (w : World) (hf : Lf w) (v0 : Value) (l0 : List UInt8) (hs0 : SV w v0 (byts l0)) :
    Does Tryd.prog 4 #[v0] w (fun r w' => r = .bool true ∧ Ext w w') := by
  have htab : Tb w := hf.1
  refine enter Tryd.func4 rfl 97 Tryd.ntmps4 rfl (by kernel_rfl) ?_
  refine CW.seq ?_
  refine CW.region ?_
  refine RL.y rfl (y_asg rfl) ?_
  refine RL.nil ?_
  refine Fin.next ?_
  refine CW.seq ?_
  refine CW.seq ?_
  refine CW.region ?_
  refine RL.y rfl (y_mov (by conv => lhs; whnf)) ?_
  refine RL.call rfl (big_any (hs0.ext (Ext.refl w))) ?_
  rintro r w1 ⟨rfl, rfl⟩
  refine RL.nil ?_
  refine Fin.next ?_
  refine CW.cond rfl rfl (fun hbig => ?_) (fun hbig => ?_)
  · with_reducible first | (replace hbig := deNF hbig) | (replace hbig := of_decide_eq_true hbig) | (replace hbig := of_decide_eq_false hbig) | (replace hbig := deNT hbig) | (replace hbig := deNN hbig) | (replace hbig := bnT hbig) | (replace hbig := bnF hbig) | skip
    refine CW.seq ?_
    refine CW.region ?_
    refine RL.y rfl (y_asg rfl) ?_
    refine RL.nil ?_
    refine Fin.next ?_
    refine CW.ret ?_
    refine Fin.thenRet ?_
    refine Fin.ret1 rfl (by conv => lhs; whnf) ?_
    exact ⟨_, rfl, rfl, (Ext.refl w)⟩
  · with_reducible first | (replace hbig := deNF hbig) | (replace hbig := of_decide_eq_true hbig) | (replace hbig := of_decide_eq_false hbig) | (replace hbig := deNT hbig) | (replace hbig := deNN hbig) | (replace hbig := bnT hbig) | (replace hbig := bnF hbig) | skip
    refine CW.skip ?_
    refine Fin.next ?_
    refine CW.seq ?_
    refine CW.region ?_
    refine RL.y rfl (y_mov (by conv => lhs; whnf)) ?_
    refine RL.call rfl (DrawBuildingText_any (hs0.ext (Ext.refl w))) ?_
    rintro v w2 ⟨ps2, ds2, ho2x0, _, hX2⟩
    have hsz2 := hX2.size
    have hE2 := hX2
    replace ho2x0 := RuB.of ho2x0
    obtain ⟨vp2x, vd2x, rfl, _⟩ := id ho2x0
    refine RL.alloc rfl ze25 (fun w3 hV3 hX3 => ?_)
    have hsz3 := hX3.size
    replace ho2x0 := ho2x0.ext hX3
    have hE3 := hE2.trans hX3
    have hlt3 := hV3.lt
    refine RL.stores ag25 (hV3) rfl rfl rfl rfl (ho2x0.one) (fun w4 hV4 hg4 => ?_)
    have hM4 := grown_mod (B := w2.heap.size) (U := w2.heap.size + 1) hg4 (fun k e => by simp only [Option.some.injEq] at e; omega)
    have hsz4 := hM4.size
    replace ho2x0 := ho2x0.mod hM4 (by omega)
    have hE4 := Ext.then_mod hE3 hM4 (by omega)
    refine RL.nil ?_
    refine Fin.next ?_
    refine CW.seq ?_
    refine CW.region ?_
    refine RL.y rfl (y_loads ag25 rfl (eqw (hV4)) rfl) ?_
    refine RL.call rfl (implBuildingText_any (htab.ext hE4) ho2x0.rd) ?_
    rintro r w5 ⟨rfl, hX5⟩
    have hsz5 := hX5.size
    replace ho2x0 := ho2x0.ext hX5
    replace hV4 := hV4.ext hX5
    have hE5 := hE4.trans hX5
    refine RL.y rfl (y_mov (by conv => lhs; whnf)) ?_
    refine RL.y rfl (y_ext0 rfl) ?_
    refine RL.y rfl (y_ext1 rfl) ?_
    refine RL.y rfl (y_asg (v := .string _) rfl) ?_
    refine RL.y rfl (y_asg (v := .int _ _) rfl) ?_
    refine RL.nil ?_
    refine Fin.next ?_
    refine CW.seq ?_
    refine CW.region ?_
    refine RL.y rfl (y_loads ag25 rfl (eqw (hV4)) rfl) ?_
    refine RL.call rfl (specBuildingText_any ho2x0.rd) ?_
    rintro r w6 ⟨rfl, hX6⟩
    have hsz6 := hX6.size
    replace ho2x0 := ho2x0.ext hX6
    replace hV4 := hV4.ext hX6
    have hE6 := hE5.trans hX6
    refine RL.y rfl (y_mov (by conv => lhs; whnf)) ?_
    refine RL.y rfl (y_ext0 rfl) ?_
    refine RL.y rfl (y_ext1 rfl) ?_
    refine RL.y rfl (y_asg (v := .string _) rfl) ?_
    refine RL.y rfl (y_asg (v := .int _ _) rfl) ?_
    refine RL.nil ?_
    refine Fin.next ?_
    refine CW.seq ?_
    refine CW.region ?_
    refine RL.y rfl (y_mov (by conv => lhs; whnf)) ?_
    refine RL.call rfl (DrawReadBuilding_any (hs0.ext hE6)) ?_
    rintro r w7 ⟨m7, rfl, _, hX7⟩
    have hsz7 := hX7.size
    replace ho2x0 := ho2x0.ext hX7
    replace hV4 := hV4.ext hX7
    have hE7 := hE6.trans hX7
    refine RL.y rfl (y_asg (v := .string _) rfl) ?_
    refine RL.nil ?_
    refine Fin.next ?_
    refine CW.seq ?_
    refine CW.region ?_
    refine RL.y rfl (y_mov (v := .string _) rfl) ?_
    refine RL.call rfl (implReadBuilding_any (hf.ext hE7) (by omega)) ?_
    rintro r w8 ⟨v18, rfl, ho8x1, hX8⟩
    have hsz8 := hX8.size
    replace ho2x0 := ho2x0.ext hX8
    replace hV4 := hV4.ext hX8
    have hE8 := hE7.trans hX8
    replace ho8x1 := OwB.of ho8x1
    obtain ⟨vp8x, vd8x, rfl, _⟩ := id ho8x1
    refine RL.y rfl (y_mov (by conv => lhs; whnf)) ?_
    refine RL.y rfl (y_ext0 rfl) ?_
    refine RL.y rfl (y_ext1 rfl) ?_
    refine RL.alloc rfl ze25 (fun w9 hV9 hX9 => ?_)
    have hsz9 := hX9.size
    replace ho2x0 := ho2x0.ext hX9
    replace ho8x1 := ho8x1.ext hX9
    replace hV4 := hV4.ext hX9
    have hE9 := hE8.trans hX9
    have hlt9 := hV9.lt
    refine RL.stores ag25 (hV9) rfl rfl rfl rfl (ho8x1.one) (fun w10 hV10 hg10 => ?_)
    have hM10 := grown_mod (B := w8.heap.size) (U := w8.heap.size + 1) hg10 (fun k e => by simp only [Option.some.injEq] at e; omega)
    have hsz10 := hM10.size
    replace ho2x0 := ho2x0.mod hM10 (by omega)
    replace ho8x1 := ho8x1.mod hM10 (by omega)
    replace hV4 := hV4.mod hM10 (by omega)
    have hE10 := Ext.then_mod hE9 hM10 (by omega)
    refine RL.y rfl (y_asg (v := .int _ _) rfl) ?_
    refine RL.nil ?_
    refine Fin.next ?_
    refine CW.seq ?_
    refine CW.region ?_
    refine RL.y rfl (y_mov (v := .string _) rfl) ?_
    refine RL.call rfl (specReadBuilding_any (by omega)) ?_
    rintro r w11 ⟨v111, rfl, ho11x1, hX11⟩
    have hsz11 := hX11.size
    replace ho2x0 := ho2x0.ext hX11
    replace ho8x1 := ho8x1.ext hX11
    replace hV4 := hV4.ext hX11
    replace hV10 := hV10.ext hX11
    have hE11 := hE10.trans hX11
    replace ho11x1 := RuB.of ho11x1
    obtain ⟨vp11x, vd11x, rfl, _⟩ := id ho11x1
    refine RL.y rfl (y_mov (by conv => lhs; whnf)) ?_
    refine RL.y rfl (y_ext0 rfl) ?_
    refine RL.y rfl (y_ext1 rfl) ?_
    refine RL.alloc rfl ze25 (fun w12 hV12 hX12 => ?_)
    have hsz12 := hX12.size
    replace ho2x0 := ho2x0.ext hX12
    replace ho8x1 := ho8x1.ext hX12
    replace ho11x1 := ho11x1.ext hX12
    replace hV4 := hV4.ext hX12
    replace hV10 := hV10.ext hX12
    have hE12 := hE11.trans hX12
    have hlt12 := hV12.lt
    refine RL.stores ag25 (hV12) rfl rfl rfl rfl (ho11x1.one) (fun w13 hV13 hg13 => ?_)
    have hM13 := grown_mod (B := w11.heap.size) (U := w11.heap.size + 1) hg13 (fun k e => by simp only [Option.some.injEq] at e; omega)
    have hsz13 := hM13.size
    replace ho2x0 := ho2x0.mod hM13 (by omega)
    replace ho8x1 := ho8x1.mod hM13 (by omega)
    replace ho11x1 := ho11x1.mod hM13 (by omega)
    replace hV4 := hV4.mod hM13 (by omega)
    replace hV10 := hV10.mod hM13 (by omega)
    have hE13 := Ext.then_mod hE12 hM13 (by omega)
    refine RL.y rfl (y_asg (v := .int _ _) rfl) ?_
    refine RL.nil ?_
    refine Fin.next ?_
    refine CW.seq ?_
    refine CW.seq ?_
    refine CW.region ?_
    refine RL.y rfl (y_mov (v := .int _ _) rfl) ?_
    refine RL.y rfl (y_mov (v := .int _ _) rfl) ?_
    refine RL.y rfl (y_ne rfl rfl) ?_
    refine RL.y rfl (y_mov (v := .bool _) rfl) ?_
    refine RL.force (t := 46) false rfl rfl (by first | (simp; done) | exact decide_eq_false (by omega) | (simp [*]; done) | assumption) ?_
    refine RL.take (t := 46) rfl rfl rfl ?_
    refine RL.y rfl (y_mov (v := .string _) rfl) ?_
    refine RL.take (t := 46) rfl rfl rfl ?_
    refine RL.y rfl (y_mov (v := .string _) rfl) ?_
    refine RL.take (t := 46) rfl rfl rfl ?_
    refine RL.y rfl (y_sne rfl rfl) ?_
    refine RL.y rfl (y_pickF (v := .bool _) rfl rfl) ?_
    refine RL.y rfl (y_mov (v := .bool _) rfl) ?_
    refine RL.force (t := 51) false rfl rfl (by first | (simp; done) | exact decide_eq_false (by omega) | (simp [*]; done) | assumption) ?_
    refine RL.take (t := 51) rfl rfl rfl ?_
    refine RL.y rfl (y_mov (v := .int _ _) rfl) ?_
    refine RL.take (t := 51) rfl rfl rfl ?_
    refine RL.y rfl (y_mov (v := .int _ _) rfl) ?_
    refine RL.take (t := 51) rfl rfl rfl ?_
    refine RL.y rfl (y_ne rfl rfl) ?_
    refine RL.y rfl (y_pickF (v := .bool _) rfl rfl) ?_
    refine RL.y rfl (y_mov (v := .bool _) rfl) ?_
    refine RL.force (t := 56) false rfl rfl (by first | (simp; done) | exact decide_eq_false (by omega) | (simp [*]; done) | assumption) ?_
    refine RL.take (t := 56) rfl rfl rfl ?_
    refine RL.y rfl (y_loads ag25 rfl (eqw (hV10)) rfl) ?_
    refine RL.take (t := 56) rfl rfl rfl ?_
    refine RL.y rfl (y_loads ag25 rfl (eqw (hV13)) rfl) ?_
    refine RL.take (t := 56) rfl rfl rfl ?_
    refine RL.call rfl (likeBuildings_any ho8x1.rd ho11x1.rd) ?_
    rintro r w14 ⟨rfl, hX14⟩
    have hsz14 := hX14.size
    replace ho2x0 := ho2x0.ext hX14
    replace ho8x1 := ho8x1.ext hX14
    replace ho11x1 := ho11x1.ext hX14
    replace hV4 := hV4.ext hX14
    replace hV10 := hV10.ext hX14
    replace hV13 := hV13.ext hX14
    have hE14 := hE13.trans hX14
    refine RL.take (t := 56) rfl rfl rfl ?_
    refine RL.y rfl (y_not rfl) ?_
    refine RL.y rfl (y_pickF (v := .bool _) rfl rfl) ?_
    refine RL.y rfl (y_mov (v := .bool _) rfl) ?_
    refine RL.force (t := 62) false rfl rfl (by first | (simp; done) | exact decide_eq_false (by omega) | (simp [*]; done) | assumption) ?_
    refine RL.take (t := 62) rfl rfl rfl ?_
    refine RL.y rfl (y_loads ag25 rfl (eqw (hV4)) rfl) ?_
    refine RL.take (t := 62) rfl rfl rfl ?_
    refine RL.call rfl (implIsBuilding_any ho2x0.rd) ?_
    rintro r w15 ⟨rfl, hX15⟩
    have hsz15 := hX15.size
    replace ho2x0 := ho2x0.ext hX15
    replace ho8x1 := ho8x1.ext hX15
    replace ho11x1 := ho11x1.ext hX15
    replace hV4 := hV4.ext hX15
    replace hV10 := hV10.ext hX15
    replace hV13 := hV13.ext hX15
    have hE15 := hE14.trans hX15
    refine RL.take (t := 62) rfl rfl rfl ?_
    refine RL.y rfl (y_mov (v := .int _ _) rfl) ?_
    refine RL.take (t := 62) rfl rfl rfl ?_
    refine RL.y rfl (y_eq rfl rfl) ?_
    refine RL.take (t := 62) rfl rfl rfl ?_
    refine RL.y rfl (y_bne Tryd.underlying4 rfl rfl) ?_
    refine RL.y rfl (y_pickF (v := .bool _) rfl rfl) ?_
    refine RL.nil ?_
    refine Fin.next ?_
    refine CW.condF rfl ((bne_iff btC_zero.symm)) ?_
    refine CW.skip ?_
    refine Fin.next ?_
    refine CW.seq ?_
    refine CW.seq ?_
    refine CW.region ?_
    refine RL.y rfl (y_mov (v := .int _ _) rfl) ?_
    refine RL.y rfl (y_eq rfl rfl) ?_
    refine RL.nil ?_
    refine Fin.next ?_
    refine CW.cond rfl rfl (fun h1 => ?_) (fun h1 => ?_)
    · with_reducible first | (replace h1 := deNF h1) | (replace h1 := of_decide_eq_true h1) | (replace h1 := of_decide_eq_false h1) | (replace h1 := deNT h1) | (replace h1 := deNN h1) | (replace h1 := bnT h1) | (replace h1 := bnF h1) | skip
      obtain ⟨f1, f2⟩ := rb_back h1
      refine CW.seq ?_
      refine CW.region ?_
      refine RL.y rfl (y_loads ag25 rfl (eqw (hV10)) rfl) ?_
      refine RL.call rfl (implBuildingText_any (htab.ext hE15) ho8x1.rd) ?_
      rintro r w16 ⟨rfl, hX16⟩
      have hsz16 := hX16.size
      replace ho2x0 := ho2x0.ext hX16
      replace ho8x1 := ho8x1.ext hX16
      replace ho11x1 := ho11x1.ext hX16
      replace hV4 := hV4.ext hX16
      replace hV10 := hV10.ext hX16
      replace hV13 := hV13.ext hX16
      have hE16 := hE15.trans hX16
      refine RL.y rfl (y_mov (by conv => lhs; whnf)) ?_
      refine RL.y rfl (y_ext0 rfl) ?_
      refine RL.y rfl (y_ext1 rfl) ?_
      refine RL.y rfl (y_asg (v := .string _) rfl) ?_
      refine RL.y rfl (y_asg (v := .int _ _) rfl) ?_
      refine RL.nil ?_
      refine Fin.next ?_
      refine CW.seq ?_
      refine CW.region ?_
      refine RL.y rfl (y_mov (v := .int _ _) rfl) ?_
      refine RL.y rfl (y_ne rfl rfl) ?_
      refine RL.y rfl (y_mov (v := .bool _) rfl) ?_
      refine RL.force (t := 78) false rfl rfl ((decide_eq_false (not_not_intro f1))) ?_
      refine RL.take (t := 78) rfl rfl rfl ?_
      refine RL.y rfl (y_mov (v := .string _) rfl) ?_
      refine RL.take (t := 78) rfl rfl rfl ?_
      refine RL.y rfl (y_mov (v := .string _) rfl) ?_
      refine RL.take (t := 78) rfl rfl rfl ?_
      refine RL.y rfl (y_sne rfl rfl) ?_
      refine RL.y rfl (y_pickF (v := .bool _) rfl rfl) ?_
      refine RL.nil ?_
      refine Fin.next ?_
      refine CW.condF rfl ((decide_eq_false (not_not_intro f2))) ?_
      refine CW.skip ?_
      refine Fin.next ?_
      refine CW.seq ?_
      refine CW.seq ?_
      refine CW.region ?_
      refine RL.y rfl (y_mov (v := .int _ _) rfl) ?_
      refine RL.y rfl (y_ne rfl rfl) ?_
      refine RL.nil ?_
      refine Fin.next ?_
      refine CW.cond rfl rfl (fun h2 => ?_) (fun h2 => ?_)
      · with_reducible first | (replace h2 := deNF h2) | (replace h2 := of_decide_eq_true h2) | (replace h2 := of_decide_eq_false h2) | (replace h2 := deNT h2) | (replace h2 := deNN h2) | (replace h2 := bnT h2) | (replace h2 := bnF h2) | skip
        refine CW.seq ?_
        refine CW.region ?_
        refine RL.y rfl (y_asg rfl) ?_
        refine RL.nil ?_
        refine Fin.next ?_
        refine CW.ret ?_
        refine Fin.thenRet ?_
        refine Fin.ret1 rfl (by conv => lhs; whnf) ?_
        exact ⟨_, rfl, rfl, hE16⟩
      · with_reducible first | (replace h2 := deNF h2) | (replace h2 := of_decide_eq_true h2) | (replace h2 := of_decide_eq_false h2) | (replace h2 := deNT h2) | (replace h2 := deNN h2) | (replace h2 := bnT h2) | (replace h2 := bnF h2) | skip
        replace h2 : btC ps2 ds2 = 0 := h2
        obtain ⟨g1, g2, g3⟩ := rb_own h2
        have hbl := btV_len ps2 ds2
        refine CW.skip ?_
        refine Fin.next ?_
        refine CW.seq ?_
        refine CW.region ?_
        refine RL.y rfl (y_mov (v := .string _) rfl) ?_
        refine RL.call rfl (implReadBuilding_any (hf.ext hE16) (by omega)) ?_
        rintro r w17 ⟨v117, rfl, ho17x1, hX17⟩
        have hsz17 := hX17.size
        replace ho2x0 := ho2x0.ext hX17
        replace ho8x1 := ho8x1.ext hX17
        replace ho11x1 := ho11x1.ext hX17
        replace hV4 := hV4.ext hX17
        replace hV10 := hV10.ext hX17
        replace hV13 := hV13.ext hX17
        have hE17 := hE16.trans hX17
        replace ho17x1 := OwB.of ho17x1
        obtain ⟨vp17x, vd17x, rfl, _⟩ := id ho17x1
        refine RL.y rfl (y_mov (by conv => lhs; whnf)) ?_
        refine RL.y rfl (y_ext0 rfl) ?_
        refine RL.y rfl (y_ext1 rfl) ?_
        refine RL.alloc rfl ze25 (fun w18 hV18 hX18 => ?_)
        have hsz18 := hX18.size
        replace ho2x0 := ho2x0.ext hX18
        replace ho8x1 := ho8x1.ext hX18
        replace ho11x1 := ho11x1.ext hX18
        replace ho17x1 := ho17x1.ext hX18
        replace hV4 := hV4.ext hX18
        replace hV10 := hV10.ext hX18
        replace hV13 := hV13.ext hX18
        have hE18 := hE17.trans hX18
        have hlt18 := hV18.lt
        refine RL.stores ag25 (hV18) rfl rfl rfl rfl (ho17x1.one) (fun w19 hV19 hg19 => ?_)
        have hM19 := grown_mod (B := w17.heap.size) (U := w17.heap.size + 1) hg19 (fun k e => by simp only [Option.some.injEq] at e; omega)
        have hsz19 := hM19.size
        replace ho2x0 := ho2x0.mod hM19 (by omega)
        replace ho8x1 := ho8x1.mod hM19 (by omega)
        replace ho11x1 := ho11x1.mod hM19 (by omega)
        replace ho17x1 := ho17x1.mod hM19 (by omega)
        replace hV4 := hV4.mod hM19 (by omega)
        replace hV10 := hV10.mod hM19 (by omega)
        replace hV13 := hV13.mod hM19 (by omega)
        have hE19 := Ext.then_mod hE18 hM19 (by omega)
        refine RL.y rfl (y_asg (v := .int _ _) rfl) ?_
        refine RL.nil ?_
        refine Fin.next ?_
        refine CW.seq ?_
        refine CW.region ?_
        refine RL.y rfl (y_mov (v := .int _ _) rfl) ?_
        refine RL.y rfl (y_eq rfl rfl) ?_
        refine RL.y rfl (y_mov (v := .bool _) rfl) ?_
        refine RL.force (t := 92) true rfl rfl ((decide_eq_true g1)) ?_
        refine RL.take (t := 92) rfl rfl rfl ?_
        refine RL.y rfl (y_loads ag25 rfl (eqw (hV19)) rfl) ?_
        refine RL.take (t := 92) rfl rfl rfl ?_
        refine RL.y rfl (y_loads ag25 rfl (eqw (hV4)) rfl) ?_
        refine RL.take (t := 92) rfl rfl rfl ?_
        refine RL.call rfl (likeBuildings_any ho17x1.rd ho2x0.rd) ?_
        rintro r w20 ⟨rfl, hX20⟩
        have hsz20 := hX20.size
        replace ho2x0 := ho2x0.ext hX20
        replace ho8x1 := ho8x1.ext hX20
        replace ho11x1 := ho11x1.ext hX20
        replace ho17x1 := ho17x1.ext hX20
        replace hV4 := hV4.ext hX20
        replace hV10 := hV10.ext hX20
        replace hV13 := hV13.ext hX20
        replace hV19 := hV19.ext hX20
        have hE20 := hE19.trans hX20
        refine RL.y rfl (y_pickT (v := .bool _) rfl rfl) ?_
        refine RL.y rfl (y_asg (v := .bool _) rfl) ?_
        refine RL.nil ?_
        refine Fin.next ?_
        refine CW.ret ?_
        refine Fin.ret1 rfl (by conv => lhs; whnf) ?_
        exact ⟨_, rfl, congrArg Value.bool (decide_eq_true ⟨g2, g3⟩), hE20⟩
    · with_reducible first | (replace h1 := deNF h1) | (replace h1 := of_decide_eq_true h1) | (replace h1 := of_decide_eq_false h1) | (replace h1 := deNT h1) | (replace h1 := deNN h1) | (replace h1 := bnT h1) | (replace h1 := bnF h1) | skip
      refine CW.skip ?_
      refine Fin.next ?_
      refine CW.seq ?_
      refine CW.seq ?_
      refine CW.region ?_
      refine RL.y rfl (y_mov (v := .int _ _) rfl) ?_
      refine RL.y rfl (y_ne rfl rfl) ?_
      refine RL.nil ?_
      refine Fin.next ?_
      refine CW.cond rfl rfl (fun h2 => ?_) (fun h2 => ?_)
      · with_reducible first | (replace h2 := deNF h2) | (replace h2 := of_decide_eq_true h2) | (replace h2 := of_decide_eq_false h2) | (replace h2 := deNT h2) | (replace h2 := deNN h2) | (replace h2 := bnT h2) | (replace h2 := bnF h2) | skip
        refine CW.seq ?_
        refine CW.region ?_
        refine RL.y rfl (y_asg rfl) ?_
        refine RL.nil ?_
        refine Fin.next ?_
        refine CW.ret ?_
        refine Fin.thenRet ?_
        refine Fin.ret1 rfl (by conv => lhs; whnf) ?_
        exact ⟨_, rfl, rfl, hE15⟩
      · with_reducible first | (replace h2 := deNF h2) | (replace h2 := of_decide_eq_true h2) | (replace h2 := of_decide_eq_false h2) | (replace h2 := deNT h2) | (replace h2 := deNN h2) | (replace h2 := bnT h2) | (replace h2 := bnF h2) | skip
        replace h2 : btC ps2 ds2 = 0 := h2
        obtain ⟨g1, g2, g3⟩ := rb_own h2
        have hbl := btV_len ps2 ds2
        refine CW.skip ?_
        refine Fin.next ?_
        refine CW.seq ?_
        refine CW.region ?_
        refine RL.y rfl (y_mov (v := .string _) rfl) ?_
        refine RL.call rfl (implReadBuilding_any (hf.ext hE15) (by omega)) ?_
        rintro r w21 ⟨v121, rfl, ho21x1, hX21⟩
        have hsz21 := hX21.size
        replace ho2x0 := ho2x0.ext hX21
        replace ho8x1 := ho8x1.ext hX21
        replace ho11x1 := ho11x1.ext hX21
        replace hV4 := hV4.ext hX21
        replace hV10 := hV10.ext hX21
        replace hV13 := hV13.ext hX21
        have hE21 := hE15.trans hX21
        replace ho21x1 := OwB.of ho21x1
        obtain ⟨vp21x, vd21x, rfl, _⟩ := id ho21x1
        refine RL.y rfl (y_mov (by conv => lhs; whnf)) ?_
        refine RL.y rfl (y_ext0 rfl) ?_
        refine RL.y rfl (y_ext1 rfl) ?_
        refine RL.alloc rfl ze25 (fun w22 hV22 hX22 => ?_)
        have hsz22 := hX22.size
        replace ho2x0 := ho2x0.ext hX22
        replace ho8x1 := ho8x1.ext hX22
        replace ho11x1 := ho11x1.ext hX22
        replace ho21x1 := ho21x1.ext hX22
        replace hV4 := hV4.ext hX22
        replace hV10 := hV10.ext hX22
        replace hV13 := hV13.ext hX22
        have hE22 := hE21.trans hX22
        have hlt22 := hV22.lt
        refine RL.stores ag25 (hV22) rfl rfl rfl rfl (ho21x1.one) (fun w23 hV23 hg23 => ?_)
        have hM23 := grown_mod (B := w21.heap.size) (U := w21.heap.size + 1) hg23 (fun k e => by simp only [Option.some.injEq] at e; omega)
        have hsz23 := hM23.size
        replace ho2x0 := ho2x0.mod hM23 (by omega)
        replace ho8x1 := ho8x1.mod hM23 (by omega)
        replace ho11x1 := ho11x1.mod hM23 (by omega)
        replace ho21x1 := ho21x1.mod hM23 (by omega)
        replace hV4 := hV4.mod hM23 (by omega)
        replace hV10 := hV10.mod hM23 (by omega)
        replace hV13 := hV13.mod hM23 (by omega)
        have hE23 := Ext.then_mod hE22 hM23 (by omega)
        refine RL.y rfl (y_asg (v := .int _ _) rfl) ?_
        refine RL.nil ?_
        refine Fin.next ?_
        refine CW.seq ?_
        refine CW.region ?_
        refine RL.y rfl (y_mov (v := .int _ _) rfl) ?_
        refine RL.y rfl (y_eq rfl rfl) ?_
        refine RL.y rfl (y_mov (v := .bool _) rfl) ?_
        refine RL.force (t := 92) true rfl rfl ((decide_eq_true g1)) ?_
        refine RL.take (t := 92) rfl rfl rfl ?_
        refine RL.y rfl (y_loads ag25 rfl (eqw (hV23)) rfl) ?_
        refine RL.take (t := 92) rfl rfl rfl ?_
        refine RL.y rfl (y_loads ag25 rfl (eqw (hV4)) rfl) ?_
        refine RL.take (t := 92) rfl rfl rfl ?_
        refine RL.call rfl (likeBuildings_any ho21x1.rd ho2x0.rd) ?_
        rintro r w24 ⟨rfl, hX24⟩
        have hsz24 := hX24.size
        replace ho2x0 := ho2x0.ext hX24
        replace ho8x1 := ho8x1.ext hX24
        replace ho11x1 := ho11x1.ext hX24
        replace ho21x1 := ho21x1.ext hX24
        replace hV4 := hV4.ext hX24
        replace hV10 := hV10.ext hX24
        replace hV13 := hV13.ext hX24
        replace hV23 := hV23.ext hX24
        have hE24 := hE23.trans hX24
        refine RL.y rfl (y_pickT (v := .bool _) rfl rfl) ?_
        refine RL.y rfl (y_asg (v := .bool _) rfl) ?_
        refine RL.nil ?_
        refine Fin.next ?_
        refine CW.ret ?_
        refine Fin.ret1 rfl (by conv => lhs; whnf) ?_
        exact ⟨_, rfl, congrArg Value.bool (decide_eq_true ⟨g2, g3⟩), hE24⟩
/-- What the condition gives the walk. -/
theorem fnBuildings.of_laid {W : World} (h : laidMetH Tryd.prog Rows.fnBuildingsRow.laid W) (hsh : W.ShapedOpen Tryd.prog) : Lf W := by
  rw [MakeChecks.laidMetH_plain _ _ _ (by kernel_rfl)] at h
  obtain ⟨ps, ⟨g0, t0, cs0, f0, p0, q0, hg0, ht0, hv0, hd0, ⟨g1, t1, cs1, f1, p1, q1, hg1, ht1, hv1, hd1, ⟨g2, t2, cs2, f2, p2, q2, hg2, ht2, hv2, hd2, ⟨g3, t3, cs3, f3, p3, q3, hg3, ht3, hv3, hd3, ⟨g4, t4, cs4, f4, p4, q4, hg4, ht4, hv4, hd4, ⟨g5, t5, cs5, f5, p5, q5, hg5, ht5, hv5, hd5, ⟨g6, t6, cs6, f6, p6, q6, hg6, ht6, hv6, hd6, _, _⟩, _⟩, _⟩, _⟩, _⟩, _⟩, _⟩, _, _⟩ := h
  have ht : Tb W := by
    have hd : DataW.trod _ Tryd.prog W 0 _ false f2 t2 cs2.toList = some (Lib.tabData .u64 Lib.pow10Tab, _) := hd2
    have hgt : Tryd.prog.globalNamed pw10 = some g2 := hg2
    obtain rfl : g2 = 3 := Option.some.inj (hgt.symm.trans (by kernel_rfl))
    obtain rfl : t2 = 112 := Option.some.inj (ht2.symm.trans (by kernel_rfl))
    show World.var? Tryd.prog W pw10 = _
    rw [show World.var? Tryd.prog W pw10 = some cs2 from hv2, ← Lib.cells_of_tab Tryd.underlying112 (by exact Tryd.underlying89) (by kernel_rfl) (by kernel_rfl) hd]
  have hv4' : ∃ tp p, World.var? Tryd.prog W "strconv.ErrRange" = some #[.iface tp p] := by
    have hgt : Tryd.prog.globalNamed "strconv.ErrRange" = some g4 := hg4
    obtain rfl : g4 = 2 := Option.some.inj (hgt.symm.trans (by kernel_rfl))
    obtain rfl : t4 = 65 := Option.some.inj (ht4.symm.trans (by kernel_rfl))
    obtain ⟨_, u, v, hc, _, _⟩ := iface_of_trod Tryd.underlying65 hd4
    have hcs : cs4 = #[.iface u v] := Array.toList_inj.1 hc
    subst hcs
    exact ⟨u, v, hv4⟩
  have hv5' : ∃ tp p, World.var? Tryd.prog W "strconv.ErrSyntax" = some #[.iface tp p] := by
    have hgt : Tryd.prog.globalNamed "strconv.ErrSyntax" = some g5 := hg5
    obtain rfl : g5 = 1 := Option.some.inj (hgt.symm.trans (by kernel_rfl))
    obtain rfl : t5 = 65 := Option.some.inj (ht5.symm.trans (by kernel_rfl))
    obtain ⟨_, u, v, hc, _, _⟩ := iface_of_trod Tryd.underlying65 hd5
    have hcs : cs5 = #[.iface u v] := Array.toList_inj.1 hc
    subst hcs
    exact ⟨u, v, hv5⟩
  exact ⟨ht, hv5', hv4', Tryd.laysM146.s1_3 W hsh⟩
namespace fnBuildings
open Go.ChangeShapes Go.WideShapes Go.ChangeAt Go.RowKit
set_option linter.unusedVariables false
theorem own : ownKnob Tryd.prog.godebug = none := by kernel_rfl
theorem laidOut : laidOutB Tryd.prog = true := by kernel_rfl
set_option maxRecDepth 100000 in
theorem lifted (os : Os) (started : os.Started) (H : Type) (enc : TypeId × Value → H) :
    ReturnsInHanded {} Tryd.checked os 4 .any (fun w args => (Rows.fnBuildingsSpec.pre enc Tryd.prog Tryd.f4 [] false w args ∧ laidMetH Tryd.prog Rows.fnBuildingsRow.laid w) ∧ sizedMet enc Tryd.prog Tryd.f4 (OpenSpec.ofChange Rows.fnBuildingsSpec) false w args)
      (Rows.fnBuildingsSpec.post enc Tryd.prog Tryd.f4 false true false false) := by
  refine handed_and_shaped (C := Tryd.checked) (X := fun w _ => laidMetH Tryd.prog Rows.fnBuildingsRow.laid w) (fun _ _ _ hh h => h.of_heap hh) own started (by kernel_rfl) Tryd.func4
    (ChangeSpec.witness_shaped (enc := enc) (C := Tryd.checked) (os := os) (X := fun w _ => laidMetH Tryd.prog Rows.fnBuildingsRow.laid w) false (World.laidAll Tryd.prog os Rows.fnBuildingsRow.laid) #[.slice none 0 0] 8 (World.laidAll_os _ _ _) (World.shaped_of_ZipB (by kernel_rfl) (by kernel_rfl)) (by kernel_rfl) (by kernel_rfl) (by kernel_rfl)
      (by rw [MakeChecks.laidMetH_plain _ _ _ (by kernel_rfl)]; exact laidMet_laidAll _ (by kernel_rfl) (by kernel_rfl))) ?_
  intro W base args ds gs before hval0 hW _ _ hL hsh _
  have hfacts := of_laid hL hsh
  have hval : ∀ (j : Nat) t v, Tryd.f4.params[j]? = some t → args[j]? = some v → Value.okWide Tryd.prog W .any base t v := hval0
  have hW' := hW
  obtain ⟨p, q, hA0, hV, rfl, hfz, hnd⟩ := hW
  have hA : DataW.TrodAll enc Tryd.prog W 0 (fun _ => true) true Tryd.f4.params.toList args.toList ds p := hA0
  rw [Tryd.params4] at hA hval
  have hkeep := hA
  obtain ⟨v0, vs0, d0, ds0, p0, q0, hargs, rfl, rfl, h0, r0⟩ := trodAll_cons hA
  obtain ⟨rfl, rfl, rfl⟩ := trodAll_nil r0
  obtain rfl : args = #[v0] := by cases args; simp_all
  obtain ⟨rfl, rfl⟩ := trodVars_none hV
  obtain ⟨l0, hs0⟩ := open_SU8 Tryd.underlying31 Tryd.underlying5 (by kernel_rfl) (hval 0 31 v0 rfl rfl) h0
  refine (lawBuildings W hfacts v0 l0 hs0).calls.mono fun e W' ⟨r, he, hr, hg⟩ => ?_
  subst hr
  subst he
  exact ⟨_, rfl, _, _, _, [] ++ [], _, [], hW', trodAll_cons_mk (shut_bool Tryd.underlying4 _) trodAll_mk0, trodAll_ext laidOut (by kernel_rfl) hkeep hg (fun x hx => hW'.lt x (List.mem_append_left _ hx)), rfl, hg.frame _, fun h => by cases h⟩
theorem over : Rows.fnBuildingsRow.holds Tryd.pinned (OpenSpec.ofChange Rows.fnBuildingsSpec) :=
  OpenClaim.holds_of_wide 4 Tryd.f4 rfl rfl rfl rfl rfl rfl rfl ⟨rfl, rfl, rfl, rfl, rfl⟩ rfl rfl rfl rfl rfl (by kernel_rfl) Tryd.func4 (by kernel_rfl)
    (of_decide_eq_true (by kernel_rfl)) (by unfold Func.isWrapper; first | (rw [if_pos (by decide +kernel)]; kernel_rfl) | (rw [if_neg (by decide +kernel)]; exact ⟨rfl, rfl⟩))
    (fun os started H enc _ => lifted os started H enc)
theorem carded : Rows.FnBuildingsCardSaid :=
  Claim7.holds_tied_plain_at .later [] Rows.fnBuildingsCard.laidKinds true Rows.fnBuildingsCard.stood.harness true
    over (fun _ h => by cases h) (by kernel_rfl) (fun _ h => by cases h) fnBuildings_row_tie rfl ⟨rfl, rfl⟩ (by kernel_rfl) rfl
    (fun f fn hf hfn => by
      obtain rfl : f = 4 := Option.some.inj ((show Tryd.prog.funcNamed Rows.fnBuildingsRow.func = some 4 by kernel_rfl).symm.trans hf) |>.symm
      obtain rfl : fn = Tryd.f4 := (Option.some.inj (Tryd.func4.symm.trans hfn)).symm
      exact ⟨by kernel_rfl, fun j t ht => by
        rw [Tryd.params4] at ht
        have hm : t ∈ [31] := by simpa using Array.mem_of_getElem? ht
        have hall : ([31].all fun u => !Tryd.prog.wantsStandIn u) = true := by kernel_rfl
        exact (show Tryd.prog.wantsStandIn t = false by simpa using List.all_eq_true.1 hall t hm)⟩)
    (by kernel_rfl)
theorem proved : Rows.FnBuildingsCardSaid := carded
end fnBuildings
#print axioms fnBuildings.proved
end Go.Proofs.YtebegkegkdmbjaaDoor
