/-
  Distances are symmetric; at the distance 1 all codes are families; the program's answers are the reference's. No condition.
-/
import Derived.Test.YtfpignajpihgnaaFDrawS2
import Derived.Test.YtfpignajpihgnaaFLikeL
import Derived.Test.YtfpignajpihgnaaSide3
import Derived.Test.YtfpignajpihgnaaAny
import Derived.Test.YtfpignajpihgnaaPart
import Derived.Test.YtfpignajpihgnaaLift6
import Derived.Test.YtfpignajpihgnaaRows
namespace Go.Proofs.Ytfpignajpihgnaa
open B Go.RowKit

set_option maxRecDepth 8000 in
theorem lawSides (w : World) (v0 : Value) (l0 : List UInt8) (hs0 : SV w v0 (byts l0)) :
    Does Try.prog 11 #[v0] w (fun r w' => r = .bool true ∧ Ext w w') := by
  refine enter Try.func11 rfl 182 Try.ntmps11 rfl (by kernel_rfl) ?_
  refine CW.seq ?_
  refine CW.region ?_
  refine RL.y rfl (y_asg rfl) ?_
  refine RL.nil ?_
  refine Fin.next ?_
  refine CW.seq ?_
  refine CW.seq ?_
  refine CW.region ?_
  refine RL.y rfl (y_mov (by conv => lhs; whnf)) ?_
  refine RL.call rfl (big_any (hs0.ext (Ext.refl w))) ?_
  rintro r w1 ⟨rfl, rfl⟩
  refine RL.nil ?_
  refine Fin.next ?_
  refine CW.cond rfl rfl (fun hbig => ?_) (fun hbig => ?_)
  · with_reducible first | (replace hbig := deNF hbig) | (replace hbig := of_decide_eq_true hbig) | (replace hbig := of_decide_eq_false hbig) | (replace hbig := deNT hbig) | (replace hbig := deNN hbig) | (replace hbig := bnT hbig) | (replace hbig := bnF hbig) | skip
    refine CW.seq ?_
    refine CW.region ?_
    refine RL.y rfl (y_asg rfl) ?_
    refine RL.nil ?_
    refine Fin.next ?_
    refine CW.ret ?_
    refine Fin.thenRet ?_
    refine Fin.ret1 rfl (by conv => lhs; whnf) ?_
    exact ⟨_, rfl, rfl, (Ext.refl w)⟩
  · with_reducible first | (replace hbig := deNF hbig) | (replace hbig := of_decide_eq_true hbig) | (replace hbig := of_decide_eq_false hbig) | (replace hbig := deNT hbig) | (replace hbig := deNN hbig) | (replace hbig := bnT hbig) | (replace hbig := bnF hbig) | skip
    refine CW.skip ?_
    refine Fin.next ?_
    refine CW.seq ?_
    refine CW.region ?_
    refine RL.y rfl (y_mov (by conv => lhs; whnf)) ?_
    refine RL.call rfl (DrawSideDistance_any (hs0.ext (Ext.refl w))) ?_
    rintro r w2 ⟨x2, y2, v12, v22, ns2, ms2, rfl, ho2x1, ho2x2, _, _, hX2⟩
    have hsz2 := hX2.size
    have hE2 := hX2
    replace ho2x1 := OU.of ho2x1
    replace ho2x2 := OU.of ho2x2
    refine RL.y rfl (y_mov (by conv => lhs; whnf)) ?_
    refine RL.y rfl (y_ext0 rfl) ?_
    refine RL.y rfl (y_ext1 rfl) ?_
    refine RL.y rfl (y_ext2 rfl) ?_
    refine RL.y rfl (y_ext3 rfl) ?_
    refine RL.y rfl (y_asg (v := .int _ _) rfl) ?_
    refine RL.y rfl (y_asg (v := .int _ _) rfl) ?_
    refine RL.y rfl (y_asg (by conv => lhs; whnf)) ?_
    refine RL.y rfl (y_asg (by conv => lhs; whnf)) ?_
    refine RL.nil ?_
    refine Fin.next ?_
    refine CW.seq ?_
    refine CW.region ?_
    refine RL.y rfl (y_mov (v := .int _ _) rfl) ?_
    refine RL.y rfl (y_mov (v := .int _ _) rfl) ?_
    refine RL.y rfl (y_mov (by conv => lhs; whnf)) ?_
    refine RL.y rfl (y_mov (by conv => lhs; whnf)) ?_
    refine RL.call rfl (implSideDistance_any ho2x1.sv ho2x2.sv) ?_
    rintro r w3 ⟨rfl, hX3⟩
    have hsz3 := hX3.size
    replace ho2x1 := ho2x1.ext hX3
    replace ho2x2 := ho2x2.ext hX3
    have hE3 := hE2.trans hX3
    refine RL.y rfl (y_mov (by conv => lhs; whnf)) ?_
    refine RL.y rfl (y_ext0 rfl) ?_
    refine RL.y rfl (y_ext1 rfl) ?_
    refine RL.y rfl (y_asg (v := .int _ _) rfl) ?_
    refine RL.y rfl (y_asg (v := .int _ _) rfl) ?_
    refine RL.nil ?_
    refine Fin.next ?_
    refine CW.seq ?_
    refine CW.region ?_
    refine RL.y rfl (y_mov (v := .int _ _) rfl) ?_
    refine RL.y rfl (y_mov (v := .int _ _) rfl) ?_
    refine RL.y rfl (y_mov (by conv => lhs; whnf)) ?_
    refine RL.y rfl (y_mov (by conv => lhs; whnf)) ?_
    refine RL.call rfl (specSideDistance_any ho2x1.sv ho2x2.sv) ?_
    rintro r w4 ⟨rfl, hX4⟩
    have hsz4 := hX4.size
    replace ho2x1 := ho2x1.ext hX4
    replace ho2x2 := ho2x2.ext hX4
    have hE4 := hE3.trans hX4
    refine RL.y rfl (y_mov (by conv => lhs; whnf)) ?_
    refine RL.y rfl (y_ext0 rfl) ?_
    refine RL.y rfl (y_ext1 rfl) ?_
    refine RL.y rfl (y_asg (v := .int _ _) rfl) ?_
    refine RL.y rfl (y_asg (v := .int _ _) rfl) ?_
    refine RL.nil ?_
    refine Fin.next ?_
    refine CW.seq ?_
    refine CW.region ?_
    refine RL.y rfl (y_mov (by conv => lhs; whnf)) ?_
    refine RL.call rfl (DrawCountSideCodes_any (hs0.ext hE4)) ?_
    rintro r w5 ⟨x5, y5, rfl, _, hX5⟩
    have hsz5 := hX5.size
    replace ho2x1 := ho2x1.ext hX5
    replace ho2x2 := ho2x2.ext hX5
    have hE5 := hE4.trans hX5
    refine RL.y rfl (y_mov (by conv => lhs; whnf)) ?_
    refine RL.y rfl (y_ext0 rfl) ?_
    refine RL.y rfl (y_ext1 rfl) ?_
    refine RL.y rfl (y_asg (v := .int _ _) rfl) ?_
    refine RL.y rfl (y_asg (v := .int _ _) rfl) ?_
    refine RL.nil ?_
    refine Fin.next ?_
    refine CW.seq ?_
    refine CW.region ?_
    refine RL.y rfl (y_mov (v := .int _ _) rfl) ?_
    refine RL.y rfl (y_mov (v := .int _ _) rfl) ?_
    refine RL.call rfl (implCountSideCodes_any) ?_
    rintro r w6 ⟨rfl, rfl⟩
    refine RL.y rfl (y_mov (by conv => lhs; whnf)) ?_
    refine RL.y rfl (y_ext0 rfl) ?_
    refine RL.y rfl (y_ext1 rfl) ?_
    refine RL.y rfl (y_asg (v := .int _ _) rfl) ?_
    refine RL.y rfl (y_asg (v := .int _ _) rfl) ?_
    refine RL.nil ?_
    refine Fin.next ?_
    refine CW.seq ?_
    refine CW.region ?_
    refine RL.y rfl (y_mov (v := .int _ _) rfl) ?_
    refine RL.y rfl (y_mov (v := .int _ _) rfl) ?_
    refine RL.call rfl (specCountSideCodes_any) ?_
    rintro r w7 ⟨rfl, rfl⟩
    refine RL.y rfl (y_mov (by conv => lhs; whnf)) ?_
    refine RL.y rfl (y_ext0 rfl) ?_
    refine RL.y rfl (y_ext1 rfl) ?_
    refine RL.y rfl (y_asg (v := .int _ _) rfl) ?_
    refine RL.y rfl (y_asg (v := .int _ _) rfl) ?_
    refine RL.nil ?_
    refine Fin.next ?_
    refine CW.seq ?_
    refine CW.region ?_
    refine RL.y rfl (y_mov (by conv => lhs; whnf)) ?_
    refine RL.call rfl (DrawAreApart_any (hs0.ext hE5)) ?_
    rintro r w8 ⟨x8, y8, d8, v18, rs8, rfl, ho8x1, _, _, hX8⟩
    have hsz8 := hX8.size
    replace ho2x1 := ho2x1.ext hX8
    replace ho2x2 := ho2x2.ext hX8
    have hE8 := hE5.trans hX8
    replace ho8x1 := RuSS.of ho8x1
    refine RL.y rfl (y_mov (by conv => lhs; whnf)) ?_
    refine RL.y rfl (y_ext0 rfl) ?_
    refine RL.y rfl (y_ext1 rfl) ?_
    refine RL.y rfl (y_ext2 rfl) ?_
    refine RL.y rfl (y_ext3 rfl) ?_
    refine RL.y rfl (y_asg (v := .int _ _) rfl) ?_
    refine RL.y rfl (y_asg (v := .int _ _) rfl) ?_
    refine RL.y rfl (y_asg (v := .int _ _) rfl) ?_
    refine RL.y rfl (y_asg (by conv => lhs; whnf)) ?_
    refine RL.nil ?_
    refine Fin.next ?_
    refine CW.seq ?_
    refine CW.region ?_
    refine RL.y rfl (y_mov (v := .int _ _) rfl) ?_
    refine RL.y rfl (y_mov (v := .int _ _) rfl) ?_
    refine RL.y rfl (y_mov (v := .int _ _) rfl) ?_
    refine RL.y rfl (y_mov (by conv => lhs; whnf)) ?_
    refine RL.call rfl (implAreApart_any ho8x1.rd) ?_
    rintro r w9 ⟨rfl, hX9⟩
    have hsz9 := hX9.size
    replace ho2x1 := ho2x1.ext hX9
    replace ho2x2 := ho2x2.ext hX9
    replace ho8x1 := ho8x1.ext hX9
    have hE9 := hE8.trans hX9
    refine RL.y rfl (y_mov (by conv => lhs; whnf)) ?_
    refine RL.y rfl (y_ext0 rfl) ?_
    refine RL.y rfl (y_ext1 rfl) ?_
    refine RL.y rfl (y_asg (v := .bool _) rfl) ?_
    refine RL.y rfl (y_asg (v := .int _ _) rfl) ?_
    refine RL.nil ?_
    refine Fin.next ?_
    refine CW.seq ?_
    refine CW.region ?_
    refine RL.y rfl (y_mov (v := .int _ _) rfl) ?_
    refine RL.y rfl (y_mov (v := .int _ _) rfl) ?_
    refine RL.y rfl (y_mov (v := .int _ _) rfl) ?_
    refine RL.y rfl (y_mov (by conv => lhs; whnf)) ?_
    refine RL.call rfl (specAreApart_any ho8x1.rd) ?_
    rintro r w10 ⟨rfl, hX10⟩
    have hsz10 := hX10.size
    replace ho2x1 := ho2x1.ext hX10
    replace ho2x2 := ho2x2.ext hX10
    replace ho8x1 := ho8x1.ext hX10
    have hE10 := hE9.trans hX10
    refine RL.y rfl (y_mov (by conv => lhs; whnf)) ?_
    refine RL.y rfl (y_ext0 rfl) ?_
    refine RL.y rfl (y_ext1 rfl) ?_
    refine RL.y rfl (y_asg (v := .bool _) rfl) ?_
    refine RL.y rfl (y_asg (v := .int _ _) rfl) ?_
    refine RL.nil ?_
    refine Fin.next ?_
    refine CW.seq ?_
    refine CW.region ?_
    refine RL.y rfl (y_mov (by conv => lhs; whnf)) ?_
    refine RL.call rfl (DrawIsSideCode_any (hs0.ext hE10)) ?_
    rintro r w11 ⟨x11, y11, v111, ns11, rfl, ho11x1, _, _, hX11⟩
    have hsz11 := hX11.size
    replace ho2x1 := ho2x1.ext hX11
    replace ho2x2 := ho2x2.ext hX11
    replace ho8x1 := ho8x1.ext hX11
    have hE11 := hE10.trans hX11
    replace ho11x1 := OU.of ho11x1
    refine RL.y rfl (y_mov (by conv => lhs; whnf)) ?_
    refine RL.y rfl (y_ext0 rfl) ?_
    refine RL.y rfl (y_ext1 rfl) ?_
    refine RL.y rfl (y_ext2 rfl) ?_
    refine RL.y rfl (y_asg (v := .int _ _) rfl) ?_
    refine RL.y rfl (y_asg (v := .int _ _) rfl) ?_
    refine RL.y rfl (y_asg (by conv => lhs; whnf)) ?_
    refine RL.nil ?_
    refine Fin.next ?_
    refine CW.seq ?_
    refine CW.seq ?_
    refine CW.region ?_
    refine RL.y rfl (y_mov (v := .int _ _) rfl) ?_
    refine RL.y rfl (y_mov (v := .int _ _) rfl) ?_
    refine RL.y rfl (y_ne rfl rfl) ?_
    refine RL.y rfl (y_mov (v := .bool _) rfl) ?_
    refine RL.force (t := 106) false rfl rfl (by first | (simp; done) | exact decide_eq_false (by omega) | (simp [*]; done) | assumption) ?_
    refine RL.take (t := 106) rfl rfl rfl ?_
    refine RL.y rfl (y_mov (v := .int _ _) rfl) ?_
    refine RL.take (t := 106) rfl rfl rfl ?_
    refine RL.y rfl (y_mov (v := .int _ _) rfl) ?_
    refine RL.take (t := 106) rfl rfl rfl ?_
    refine RL.y rfl (y_ne rfl rfl) ?_
    refine RL.y rfl (y_pickF (v := .bool _) rfl rfl) ?_
    refine RL.y rfl (y_mov (v := .bool _) rfl) ?_
    refine RL.force (t := 111) false rfl rfl (by first | (simp; done) | exact decide_eq_false (by omega) | (simp [*]; done) | assumption) ?_
    refine RL.take (t := 111) rfl rfl rfl ?_
    refine RL.y rfl (y_mov (v := .int _ _) rfl) ?_
    refine RL.take (t := 111) rfl rfl rfl ?_
    refine RL.y rfl (y_mov (v := .int _ _) rfl) ?_
    refine RL.take (t := 111) rfl rfl rfl ?_
    refine RL.y rfl (y_ne rfl rfl) ?_
    refine RL.y rfl (y_pickF (v := .bool _) rfl rfl) ?_
    refine RL.y rfl (y_mov (v := .bool _) rfl) ?_
    refine RL.force (t := 116) false rfl rfl (by first | (simp; done) | exact decide_eq_false (by omega) | (simp [*]; done) | assumption) ?_
    refine RL.take (t := 116) rfl rfl rfl ?_
    refine RL.y rfl (y_mov (v := .int _ _) rfl) ?_
    refine RL.take (t := 116) rfl rfl rfl ?_
    refine RL.y rfl (y_mov (v := .int _ _) rfl) ?_
    refine RL.take (t := 116) rfl rfl rfl ?_
    refine RL.y rfl (y_ne rfl rfl) ?_
    refine RL.y rfl (y_pickF (v := .bool _) rfl rfl) ?_
    refine RL.y rfl (y_mov (v := .bool _) rfl) ?_
    refine RL.force (t := 121) false rfl rfl (by first | (simp; done) | exact decide_eq_false (by omega) | (simp [*]; done) | assumption) ?_
    refine RL.take (t := 121) rfl rfl rfl ?_
    refine RL.y rfl (y_mov (v := .int _ _) rfl) ?_
    refine RL.take (t := 121) rfl rfl rfl ?_
    refine RL.y rfl (y_mov (v := .int _ _) rfl) ?_
    refine RL.take (t := 121) rfl rfl rfl ?_
    refine RL.y rfl (y_ne rfl rfl) ?_
    refine RL.y rfl (y_pickF (v := .bool _) rfl rfl) ?_
    refine RL.y rfl (y_mov (v := .bool _) rfl) ?_
    refine RL.force (t := 126) false rfl rfl (by first | (simp; done) | exact decide_eq_false (by omega) | (simp [*]; done) | assumption) ?_
    refine RL.take (t := 126) rfl rfl rfl ?_
    refine RL.y rfl (y_mov (v := .bool _) rfl) ?_
    refine RL.take (t := 126) rfl rfl rfl ?_
    refine RL.y rfl (y_mov (v := .bool _) rfl) ?_
    refine RL.take (t := 126) rfl rfl rfl ?_
    refine RL.y rfl (y_bne Try.underlying4 rfl rfl) ?_
    refine RL.y rfl (y_pickF (v := .bool _) rfl rfl) ?_
    refine RL.y rfl (y_mov (v := .bool _) rfl) ?_
    refine RL.force (t := 131) false rfl rfl (by first | (simp; done) | exact decide_eq_false (by omega) | (simp [*]; done) | assumption) ?_
    refine RL.take (t := 131) rfl rfl rfl ?_
    refine RL.y rfl (y_mov (v := .int _ _) rfl) ?_
    refine RL.take (t := 131) rfl rfl rfl ?_
    refine RL.y rfl (y_mov (v := .int _ _) rfl) ?_
    refine RL.take (t := 131) rfl rfl rfl ?_
    refine RL.y rfl (y_mov (by conv => lhs; whnf)) ?_
    refine RL.take (t := 131) rfl rfl rfl ?_
    refine RL.call rfl (implIsSideCode_any ho11x1.sv) ?_
    rintro r w12 ⟨rfl, rfl⟩
    refine RL.take (t := 131) rfl rfl rfl ?_
    refine RL.y rfl (y_mov (v := .int _ _) rfl) ?_
    refine RL.take (t := 131) rfl rfl rfl ?_
    refine RL.y rfl (y_mov (v := .int _ _) rfl) ?_
    refine RL.take (t := 131) rfl rfl rfl ?_
    refine RL.y rfl (y_mov (by conv => lhs; whnf)) ?_
    refine RL.take (t := 131) rfl rfl rfl ?_
    refine RL.call rfl (specIsSideCode_any ho11x1.sv) ?_
    rintro r w13 ⟨rfl, rfl⟩
    refine RL.take (t := 131) rfl rfl rfl ?_
    refine RL.y rfl (y_bne Try.underlying4 rfl rfl) ?_
    refine RL.y rfl (y_pickF (v := .bool _) rfl rfl) ?_
    refine RL.nil ?_
    refine Fin.next ?_
    refine CW.condF rfl (by first | (simp; done) | exact decide_eq_false (by omega) | (simp [*]; done) | assumption) ?_
    refine CW.skip ?_
    refine Fin.next ?_
    refine CW.seq ?_
    refine CW.seq ?_
    refine CW.region ?_
    refine RL.y rfl (y_mov (v := .int _ _) rfl) ?_
    refine RL.y rfl (y_eq rfl rfl) ?_
    refine RL.nil ?_
    refine Fin.next ?_
    refine CW.cond rfl rfl (fun h1 => ?_) (fun h1 => ?_)
    · with_reducible first | (replace h1 := deNF h1) | (replace h1 := of_decide_eq_true h1) | (replace h1 := of_decide_eq_false h1) | (replace h1 := deNT h1) | (replace h1 := deNN h1) | (replace h1 := bnT h1) | (replace h1 := bnF h1) | skip
      obtain ⟨f1, f2⟩ := count_facts h1
      refine CW.seq ?_
      refine CW.region ?_
      refine RL.y rfl (y_mov (v := .int _ _) rfl) ?_
      refine RL.y rfl (y_mov (v := .int _ _) rfl) ?_
      refine RL.call rfl (implCountFamilies_any) ?_
      rintro r w14 ⟨rfl, hX14⟩
      have hsz14 := hX14.size
      replace ho2x1 := ho2x1.ext hX14
      replace ho2x2 := ho2x2.ext hX14
      replace ho8x1 := ho8x1.ext hX14
      replace ho11x1 := ho11x1.ext hX14
      have hE14 := hE11.trans hX14
      refine RL.y rfl (y_mov (by conv => lhs; whnf)) ?_
      refine RL.y rfl (y_ext0 rfl) ?_
      refine RL.y rfl (y_ext1 rfl) ?_
      refine RL.y rfl (y_asg (v := .int _ _) rfl) ?_
      refine RL.y rfl (y_asg (v := .int _ _) rfl) ?_
      refine RL.nil ?_
      refine Fin.next ?_
      refine CW.seq ?_
      refine CW.region ?_
      refine RL.y rfl (y_mov (v := .int _ _) rfl) ?_
      refine RL.y rfl (y_ne rfl rfl) ?_
      refine RL.y rfl (y_mov (v := .bool _) rfl) ?_
      refine RL.force (t := 152) false rfl rfl ((decide_eq_false (not_not_intro f1))) ?_
      refine RL.take (t := 152) rfl rfl rfl ?_
      refine RL.y rfl (y_mov (v := .int _ _) rfl) ?_
      refine RL.take (t := 152) rfl rfl rfl ?_
      refine RL.y rfl (y_mov (v := .int _ _) rfl) ?_
      refine RL.take (t := 152) rfl rfl rfl ?_
      refine RL.y rfl (y_ne rfl rfl) ?_
      refine RL.y rfl (y_pickF (v := .bool _) rfl rfl) ?_
      refine RL.nil ?_
      refine Fin.next ?_
      refine CW.condF rfl ((decide_eq_false (not_not_intro f2))) ?_
      refine CW.skip ?_
      refine Fin.next ?_
      refine CW.seq ?_
      refine CW.seq ?_
      refine CW.region ?_
      refine RL.y rfl (y_mov (v := .int _ _) rfl) ?_
      refine RL.y rfl (y_ne rfl rfl) ?_
      refine RL.nil ?_
      refine Fin.next ?_
      refine CW.cond rfl rfl (fun h2 => ?_) (fun h2 => ?_)
      · with_reducible first | (replace h2 := deNF h2) | (replace h2 := of_decide_eq_true h2) | (replace h2 := of_decide_eq_false h2) | (replace h2 := deNT h2) | (replace h2 := deNN h2) | (replace h2 := bnT h2) | (replace h2 := bnF h2) | skip
        refine CW.seq ?_
        refine CW.region ?_
        refine RL.y rfl (y_asg rfl) ?_
        refine RL.nil ?_
        refine Fin.next ?_
        refine CW.ret ?_
        refine Fin.thenRet ?_
        refine Fin.ret1 rfl (by conv => lhs; whnf) ?_
        exact ⟨_, rfl, rfl, hE14⟩
      · with_reducible first | (replace h2 := deNF h2) | (replace h2 := of_decide_eq_true h2) | (replace h2 := of_decide_eq_false h2) | (replace h2 := deNT h2) | (replace h2 := deNN h2) | (replace h2 := bnT h2) | (replace h2 := bnF h2) | skip
        obtain ⟨g1, g2, g3⟩ := dist_facts h2
        refine CW.skip ?_
        refine Fin.next ?_
        refine CW.seq ?_
        refine CW.region ?_
        refine RL.y rfl (y_mov (v := .int _ _) rfl) ?_
        refine RL.y rfl (y_mov (v := .int _ _) rfl) ?_
        refine RL.y rfl (y_mov (by conv => lhs; whnf)) ?_
        refine RL.y rfl (y_mov (by conv => lhs; whnf)) ?_
        refine RL.call rfl (implSideDistance_any ho2x2.sv ho2x1.sv) ?_
        rintro r w15 ⟨rfl, hX15⟩
        have hsz15 := hX15.size
        replace ho2x1 := ho2x1.ext hX15
        replace ho2x2 := ho2x2.ext hX15
        replace ho8x1 := ho8x1.ext hX15
        replace ho11x1 := ho11x1.ext hX15
        have hE15 := hE14.trans hX15
        refine RL.y rfl (y_mov (by conv => lhs; whnf)) ?_
        refine RL.y rfl (y_ext0 rfl) ?_
        refine RL.y rfl (y_ext1 rfl) ?_
        refine RL.y rfl (y_asg (v := .int _ _) rfl) ?_
        refine RL.y rfl (y_asg (v := .int _ _) rfl) ?_
        refine RL.nil ?_
        refine Fin.next ?_
        refine CW.seq ?_
        refine CW.region ?_
        refine RL.y rfl (y_mov (v := .int _ _) rfl) ?_
        refine RL.y rfl (y_eq rfl rfl) ?_
        refine RL.y rfl (y_mov (v := .bool _) rfl) ?_
        refine RL.force (t := 169) true rfl rfl ((decide_eq_true g1)) ?_
        refine RL.take (t := 169) rfl rfl rfl ?_
        refine RL.y rfl (y_mov (v := .int _ _) rfl) ?_
        refine RL.take (t := 169) rfl rfl rfl ?_
        refine RL.y rfl (y_mov (v := .int _ _) rfl) ?_
        refine RL.take (t := 169) rfl rfl rfl ?_
        refine RL.y rfl (y_eq rfl rfl) ?_
        refine RL.y rfl (y_pickT (v := .bool _) rfl rfl) ?_
        refine RL.y rfl (y_mov (v := .bool _) rfl) ?_
        refine RL.force (t := 174) true rfl rfl ((decide_eq_true g2)) ?_
        refine RL.take (t := 174) rfl rfl rfl ?_
        refine RL.y rfl (y_mov (v := .int _ _) rfl) ?_
        refine RL.take (t := 174) rfl rfl rfl ?_
        refine RL.y rfl (y_eq rfl rfl) ?_
        refine RL.take (t := 174) rfl rfl rfl ?_
        refine RL.y rfl (y_mov (by conv => lhs; whnf)) ?_
        refine RL.take (t := 174) rfl rfl rfl ?_
        refine RL.y rfl (y_mov (by conv => lhs; whnf)) ?_
        refine RL.take (t := 174) rfl rfl rfl ?_
        refine RL.call rfl (likeInts_any ho2x1.sv ho2x2.sv) ?_
        rintro r w16 ⟨rfl, hX16⟩
        have hsz16 := hX16.size
        replace ho2x1 := ho2x1.ext hX16
        replace ho2x2 := ho2x2.ext hX16
        replace ho8x1 := ho8x1.ext hX16
        replace ho11x1 := ho11x1.ext hX16
        have hE16 := hE15.trans hX16
        refine RL.take (t := 174) rfl rfl rfl ?_
        refine RL.y rfl (y_beq Try.underlying4 rfl rfl) ?_
        refine RL.y rfl (y_pickT (v := .bool _) rfl rfl) ?_
        refine RL.y rfl (y_asg (v := .bool _) rfl) ?_
        refine RL.nil ?_
        refine Fin.next ?_
        refine CW.ret ?_
        refine Fin.ret1 rfl (by conv => lhs; whnf) ?_
        exact ⟨_, rfl, congrArg Value.bool (by simp [g3]), hE16⟩
    · with_reducible first | (replace h1 := deNF h1) | (replace h1 := of_decide_eq_true h1) | (replace h1 := of_decide_eq_false h1) | (replace h1 := deNT h1) | (replace h1 := deNN h1) | (replace h1 := bnT h1) | (replace h1 := bnF h1) | skip
      refine CW.skip ?_
      refine Fin.next ?_
      refine CW.seq ?_
      refine CW.seq ?_
      refine CW.region ?_
      refine RL.y rfl (y_mov (v := .int _ _) rfl) ?_
      refine RL.y rfl (y_ne rfl rfl) ?_
      refine RL.nil ?_
      refine Fin.next ?_
      refine CW.cond rfl rfl (fun h2 => ?_) (fun h2 => ?_)
      · with_reducible first | (replace h2 := deNF h2) | (replace h2 := of_decide_eq_true h2) | (replace h2 := of_decide_eq_false h2) | (replace h2 := deNT h2) | (replace h2 := deNN h2) | (replace h2 := bnT h2) | (replace h2 := bnF h2) | skip
        refine CW.seq ?_
        refine CW.region ?_
        refine RL.y rfl (y_asg rfl) ?_
        refine RL.nil ?_
        refine Fin.next ?_
        refine CW.ret ?_
        refine Fin.thenRet ?_
        refine Fin.ret1 rfl (by conv => lhs; whnf) ?_
        exact ⟨_, rfl, rfl, hE11⟩
      · with_reducible first | (replace h2 := deNF h2) | (replace h2 := of_decide_eq_true h2) | (replace h2 := of_decide_eq_false h2) | (replace h2 := deNT h2) | (replace h2 := deNN h2) | (replace h2 := bnT h2) | (replace h2 := bnF h2) | skip
        obtain ⟨g1, g2, g3⟩ := dist_facts h2
        refine CW.skip ?_
        refine Fin.next ?_
        refine CW.seq ?_
        refine CW.region ?_
        refine RL.y rfl (y_mov (v := .int _ _) rfl) ?_
        refine RL.y rfl (y_mov (v := .int _ _) rfl) ?_
        refine RL.y rfl (y_mov (by conv => lhs; whnf)) ?_
        refine RL.y rfl (y_mov (by conv => lhs; whnf)) ?_
        refine RL.call rfl (implSideDistance_any ho2x2.sv ho2x1.sv) ?_
        rintro r w17 ⟨rfl, hX17⟩
        have hsz17 := hX17.size
        replace ho2x1 := ho2x1.ext hX17
        replace ho2x2 := ho2x2.ext hX17
        replace ho8x1 := ho8x1.ext hX17
        replace ho11x1 := ho11x1.ext hX17
        have hE17 := hE11.trans hX17
        refine RL.y rfl (y_mov (by conv => lhs; whnf)) ?_
        refine RL.y rfl (y_ext0 rfl) ?_
        refine RL.y rfl (y_ext1 rfl) ?_
        refine RL.y rfl (y_asg (v := .int _ _) rfl) ?_
        refine RL.y rfl (y_asg (v := .int _ _) rfl) ?_
        refine RL.nil ?_
        refine Fin.next ?_
        refine CW.seq ?_
        refine CW.region ?_
        refine RL.y rfl (y_mov (v := .int _ _) rfl) ?_
        refine RL.y rfl (y_eq rfl rfl) ?_
        refine RL.y rfl (y_mov (v := .bool _) rfl) ?_
        refine RL.force (t := 169) true rfl rfl ((decide_eq_true g1)) ?_
        refine RL.take (t := 169) rfl rfl rfl ?_
        refine RL.y rfl (y_mov (v := .int _ _) rfl) ?_
        refine RL.take (t := 169) rfl rfl rfl ?_
        refine RL.y rfl (y_mov (v := .int _ _) rfl) ?_
        refine RL.take (t := 169) rfl rfl rfl ?_
        refine RL.y rfl (y_eq rfl rfl) ?_
        refine RL.y rfl (y_pickT (v := .bool _) rfl rfl) ?_
        refine RL.y rfl (y_mov (v := .bool _) rfl) ?_
        refine RL.force (t := 174) true rfl rfl ((decide_eq_true g2)) ?_
        refine RL.take (t := 174) rfl rfl rfl ?_
        refine RL.y rfl (y_mov (v := .int _ _) rfl) ?_
        refine RL.take (t := 174) rfl rfl rfl ?_
        refine RL.y rfl (y_eq rfl rfl) ?_
        refine RL.take (t := 174) rfl rfl rfl ?_
        refine RL.y rfl (y_mov (by conv => lhs; whnf)) ?_
        refine RL.take (t := 174) rfl rfl rfl ?_
        refine RL.y rfl (y_mov (by conv => lhs; whnf)) ?_
        refine RL.take (t := 174) rfl rfl rfl ?_
        refine RL.call rfl (likeInts_any ho2x1.sv ho2x2.sv) ?_
        rintro r w18 ⟨rfl, hX18⟩
        have hsz18 := hX18.size
        replace ho2x1 := ho2x1.ext hX18
        replace ho2x2 := ho2x2.ext hX18
        replace ho8x1 := ho8x1.ext hX18
        replace ho11x1 := ho11x1.ext hX18
        have hE18 := hE17.trans hX18
        refine RL.take (t := 174) rfl rfl rfl ?_
        refine RL.y rfl (y_beq Try.underlying4 rfl rfl) ?_
        refine RL.y rfl (y_pickT (v := .bool _) rfl rfl) ?_
        refine RL.y rfl (y_asg (v := .bool _) rfl) ?_
        refine RL.nil ?_
        refine Fin.next ?_
        refine CW.ret ?_
        refine Fin.ret1 rfl (by conv => lhs; whnf) ?_
        exact ⟨_, rfl, congrArg Value.bool (by simp [g3]), hE18⟩
namespace fnSides
open Go.ChangeShapes Go.WideShapes Go.ChangeAt Go.RowKit
set_option linter.unusedVariables false
theorem own : ownKnob Try.prog.godebug = none := by kernel_rfl
theorem laidOut : laidOutB Try.prog = true := by kernel_rfl
set_option maxRecDepth 100000 in
theorem lifted (os : Os) (started : os.Started) (H : Type) (enc : TypeId × Value → H) :
    ReturnsInHanded {} Try.checked os 11 .any (Rows.fnSidesSpec.pre6 enc Try.prog Try.f11 Rows.fnSidesRow.domain false) (Rows.fnSidesSpec.post enc Try.prog Try.f11 false true false false) := by
  refine returnsInHanded_of_change (C := Try.checked) own started (by kernel_rfl) Try.func11
    (ChangeSpec.witness6 (enc := enc) (C := Try.checked) false ⟨#[], #[.slice none 0 0], []⟩ 8 (by kernel_rfl) (by kernel_rfl) (by kernel_rfl) (by kernel_rfl)) ?_
  intro W base args ds gs before hval0 hW hcnd _
  have hval : ∀ (j : Nat) t v, Try.f11.params[j]? = some t → args[j]? = some v → Value.okWide Try.prog W .any base t v := hval0
  have hW' := hW
  obtain ⟨p, q, hA0, hV, rfl, hfz, hnd⟩ := hW
  have hA : DataW.TrodAll enc Try.prog W 0 (fun _ => true) true Try.f11.params.toList args.toList ds p := hA0
  rw [Try.params11] at hA hval
  have hkeep := hA
  obtain ⟨v0, vs0, d0, ds0, p0, q0, hargs, rfl, rfl, h0, r0⟩ := trodAll_cons hA
  obtain ⟨rfl, rfl, rfl⟩ := trodAll_nil r0
  obtain rfl : args = #[v0] := by cases args; simp_all
  obtain ⟨rfl, rfl⟩ := trodVars_none hV
  obtain ⟨l0, hs0⟩ := open_SU8 Try.underlying47 Try.underlying5 (by kernel_rfl) (hval 0 47 v0 rfl rfl) h0
  refine (lawSides W v0 l0 hs0).calls.mono fun e W' ⟨r, he, hr, hg⟩ => ?_
  subst hr
  subst he
  exact ⟨_, rfl, _, _, _, [] ++ [], _, [], hW', trodAll_cons_mk (shut_bool Try.underlying4 _) trodAll_mk0, trodAll_ext laidOut (by kernel_rfl) hkeep hg (fun x hx => hW'.lt x (List.mem_append_left _ hx)), rfl, hg.frame _, fun h => by cases h⟩
theorem over : Rows.fnSidesRow.holds Try.pinned (OpenSpec.ofChange Rows.fnSidesSpec) :=
  OpenClaim.holds_of_wide 11 Try.f11 rfl rfl rfl rfl rfl rfl rfl ⟨rfl, rfl, rfl, rfl, rfl⟩ rfl rfl rfl rfl rfl (by kernel_rfl) Try.func11 (by kernel_rfl)
    (of_decide_eq_true (by kernel_rfl)) (by unfold Func.isWrapper; first | (rw [if_pos (by decide +kernel)]; kernel_rfl) | (rw [if_neg (by decide +kernel)]; exact ⟨rfl, rfl⟩))
    (fun os started H enc _ => lifted os started H enc)
theorem proved : Rows.FnSidesSaid := over
end fnSides
#print axioms fnSides.proved
end Go.Proofs.Ytfpignajpihgnaa
