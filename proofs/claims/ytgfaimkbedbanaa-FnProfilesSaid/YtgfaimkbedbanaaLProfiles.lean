/-
  A profile is recovered from its text; a blank with less metal enters all keyways; the program's answers are the reference's. No condition.
-/
import Derived.Test.YtgfaimkbedbanaaFDrawK2
import Derived.Test.YtgfaimkbedbanaaFRise
import Derived.Test.YtgfaimkbedbanaaKey4
import Derived.Test.YtgfaimkbedbanaaPart
import Derived.Test.YtgfaimkbedbanaaLift6
import Derived.Test.YtgfaimkbedbanaaRows
namespace Go.Proofs.Ytgfaimkbedbanaa
open B Go.RowKit

set_option maxRecDepth 8000 in
theorem lawProfiles (w : World) (v0 : Value) (l0 : List UInt8) (hs0 : SV w v0 (byts l0)) :
    Does Try.prog 11 #[v0] w (fun r w' => r = .bool true ∧ Ext w w') := by
  refine enter Try.func11 rfl 172 Try.ntmps11 rfl (by kernel_rfl) ?_
  refine CW.seq ?_
  refine CW.region ?_
  refine RL.y rfl (y_asg rfl) ?_
  refine RL.nil ?_
  refine Fin.next ?_
  refine CW.seq ?_
  refine CW.seq ?_
  refine CW.region ?_
  refine RL.y rfl (y_mov (by conv => lhs; whnf)) ?_
  refine RL.call rfl (big_any (hs0.ext (Ext.refl w))) ?_
  rintro r w1 ⟨rfl, rfl⟩
  refine RL.nil ?_
  refine Fin.next ?_
  refine CW.cond rfl rfl (fun hbig => ?_) (fun hbig => ?_)
  · with_reducible first | (replace hbig := deNF hbig) | (replace hbig := of_decide_eq_true hbig) | (replace hbig := of_decide_eq_false hbig) | (replace hbig := deNT hbig) | (replace hbig := deNN hbig) | (replace hbig := bnT hbig) | (replace hbig := bnF hbig) | skip
    refine CW.seq ?_
    refine CW.region ?_
    refine RL.y rfl (y_asg rfl) ?_
    refine RL.nil ?_
    refine Fin.next ?_
    refine CW.ret ?_
    refine Fin.thenRet ?_
    refine Fin.ret1 rfl (by conv => lhs; whnf) ?_
    exact ⟨_, rfl, rfl, (Ext.refl w)⟩
  · with_reducible first | (replace hbig := deNF hbig) | (replace hbig := of_decide_eq_true hbig) | (replace hbig := of_decide_eq_false hbig) | (replace hbig := deNT hbig) | (replace hbig := deNN hbig) | (replace hbig := bnT hbig) | (replace hbig := bnF hbig) | skip
    refine CW.skip ?_
    refine Fin.next ?_
    refine CW.seq ?_
    refine CW.region ?_
    refine RL.y rfl (y_mov (by conv => lhs; whnf)) ?_
    refine RL.call rfl (DrawWaysOf_any (hs0.ext (Ext.refl w))) ?_
    rintro r w2 ⟨x2, v12, ns2, rfl, ho2x1, _, hX2⟩
    have hsz2 := hX2.size
    have hE2 := hX2
    replace ho2x1 := OU.of ho2x1
    refine RL.y rfl (y_mov (by conv => lhs; whnf)) ?_
    refine RL.y rfl (y_ext0 rfl) ?_
    refine RL.y rfl (y_ext1 rfl) ?_
    refine RL.y rfl (y_asg (v := .int _ _) rfl) ?_
    refine RL.y rfl (y_asg (by conv => lhs; whnf)) ?_
    refine RL.nil ?_
    refine Fin.next ?_
    refine CW.seq ?_
    refine CW.region ?_
    refine RL.y rfl (y_mov (v := .int _ _) rfl) ?_
    refine RL.y rfl (y_mov (by conv => lhs; whnf)) ?_
    refine RL.call rfl (implWaysOf_any ho2x1.sv) ?_
    rintro r w3 ⟨v3, rfl, ho3x1, hX3⟩
    have hsz3 := hX3.size
    replace ho2x1 := ho2x1.ext hX3
    have hE3 := hE2.trans hX3
    replace ho3x1 := OU.of ho3x1
    refine RL.y rfl (y_mov (by conv => lhs; whnf)) ?_
    refine RL.y rfl (y_ext0 rfl) ?_
    refine RL.y rfl (y_ext1 rfl) ?_
    refine RL.y rfl (y_asg (by conv => lhs; whnf)) ?_
    refine RL.y rfl (y_asg (v := .int _ _) rfl) ?_
    refine RL.nil ?_
    refine Fin.next ?_
    refine CW.seq ?_
    refine CW.region ?_
    refine RL.y rfl (y_mov (v := .int _ _) rfl) ?_
    refine RL.y rfl (y_mov (by conv => lhs; whnf)) ?_
    refine RL.call rfl (specWaysOf_any ho2x1.sv) ?_
    rintro r w4 ⟨v4, rfl, ho4x1, hX4⟩
    have hsz4 := hX4.size
    replace ho2x1 := ho2x1.ext hX4
    replace ho3x1 := ho3x1.ext hX4
    have hE4 := hE3.trans hX4
    replace ho4x1 := OU.of ho4x1
    refine RL.y rfl (y_mov (by conv => lhs; whnf)) ?_
    refine RL.y rfl (y_ext0 rfl) ?_
    refine RL.y rfl (y_ext1 rfl) ?_
    refine RL.y rfl (y_asg (by conv => lhs; whnf)) ?_
    refine RL.y rfl (y_asg (v := .int _ _) rfl) ?_
    refine RL.nil ?_
    refine Fin.next ?_
    refine CW.seq ?_
    refine CW.region ?_
    refine RL.y rfl (y_mov (by conv => lhs; whnf)) ?_
    refine RL.call rfl (DrawEntersWay_any (hs0.ext hE4)) ?_
    rintro r w5 ⟨x5, y5, rfl, hX5⟩
    have hsz5 := hX5.size
    replace ho2x1 := ho2x1.ext hX5
    replace ho3x1 := ho3x1.ext hX5
    replace ho4x1 := ho4x1.ext hX5
    have hE5 := hE4.trans hX5
    refine RL.y rfl (y_mov (by conv => lhs; whnf)) ?_
    refine RL.y rfl (y_ext0 rfl) ?_
    refine RL.y rfl (y_ext1 rfl) ?_
    refine RL.y rfl (y_asg (v := .int _ _) rfl) ?_
    refine RL.y rfl (y_asg (v := .int _ _) rfl) ?_
    refine RL.nil ?_
    refine Fin.next ?_
    refine CW.seq ?_
    refine CW.region ?_
    refine RL.y rfl (y_mov (v := .int _ _) rfl) ?_
    refine RL.y rfl (y_mov (v := .int _ _) rfl) ?_
    refine RL.call rfl (implEntersWay_any) ?_
    rintro r w6 ⟨rfl, rfl⟩
    refine RL.y rfl (y_mov (by conv => lhs; whnf)) ?_
    refine RL.y rfl (y_ext0 rfl) ?_
    refine RL.y rfl (y_ext1 rfl) ?_
    refine RL.y rfl (y_asg (v := .bool _) rfl) ?_
    refine RL.y rfl (y_asg (v := .int _ _) rfl) ?_
    refine RL.nil ?_
    refine Fin.next ?_
    refine CW.seq ?_
    refine CW.region ?_
    refine RL.y rfl (y_mov (v := .int _ _) rfl) ?_
    refine RL.y rfl (y_mov (v := .int _ _) rfl) ?_
    refine RL.call rfl (specEntersWay_any) ?_
    rintro r w7 ⟨rfl, rfl⟩
    refine RL.y rfl (y_mov (by conv => lhs; whnf)) ?_
    refine RL.y rfl (y_ext0 rfl) ?_
    refine RL.y rfl (y_ext1 rfl) ?_
    refine RL.y rfl (y_asg (v := .bool _) rfl) ?_
    refine RL.y rfl (y_asg (v := .int _ _) rfl) ?_
    refine RL.nil ?_
    refine Fin.next ?_
    refine CW.seq ?_
    refine CW.region ?_
    refine RL.y rfl (y_mov (by conv => lhs; whnf)) ?_
    refine RL.call rfl (DrawProfileText_any (hs0.ext hE5)) ?_
    rintro r w8 ⟨x8, rfl, hX8⟩
    have hsz8 := hX8.size
    replace ho2x1 := ho2x1.ext hX8
    replace ho3x1 := ho3x1.ext hX8
    replace ho4x1 := ho4x1.ext hX8
    have hE8 := hE5.trans hX8
    refine RL.y rfl (y_asg (v := .int _ _) rfl) ?_
    refine RL.nil ?_
    refine Fin.next ?_
    refine CW.seq ?_
    refine CW.region ?_
    refine RL.y rfl (y_mov (v := .int _ _) rfl) ?_
    refine RL.call rfl (implProfileText_any) ?_
    rintro r w9 ⟨rfl, rfl⟩
    refine RL.y rfl (y_mov (by conv => lhs; whnf)) ?_
    refine RL.y rfl (y_ext0 rfl) ?_
    refine RL.y rfl (y_ext1 rfl) ?_
    refine RL.y rfl (y_asg (v := .string _) rfl) ?_
    refine RL.y rfl (y_asg (v := .int _ _) rfl) ?_
    refine RL.nil ?_
    refine Fin.next ?_
    refine CW.seq ?_
    refine CW.region ?_
    refine RL.y rfl (y_mov (v := .int _ _) rfl) ?_
    refine RL.call rfl (specProfileText_any) ?_
    rintro r w10 ⟨rfl, hX10⟩
    have hsz10 := hX10.size
    replace ho2x1 := ho2x1.ext hX10
    replace ho3x1 := ho3x1.ext hX10
    replace ho4x1 := ho4x1.ext hX10
    have hE10 := hE8.trans hX10
    refine RL.y rfl (y_mov (by conv => lhs; whnf)) ?_
    refine RL.y rfl (y_ext0 rfl) ?_
    refine RL.y rfl (y_ext1 rfl) ?_
    refine RL.y rfl (y_asg (v := .string _) rfl) ?_
    refine RL.y rfl (y_asg (v := .int _ _) rfl) ?_
    refine RL.nil ?_
    refine Fin.next ?_
    refine CW.seq ?_
    refine CW.region ?_
    refine RL.y rfl (y_mov (by conv => lhs; whnf)) ?_
    refine RL.call rfl (DrawReadProfile_any (hs0.ext hE10)) ?_
    rintro r w11 ⟨m11, rfl, _, hX11⟩
    have hsz11 := hX11.size
    replace ho2x1 := ho2x1.ext hX11
    replace ho3x1 := ho3x1.ext hX11
    replace ho4x1 := ho4x1.ext hX11
    have hE11 := hE10.trans hX11
    refine RL.y rfl (y_asg (v := .string _) rfl) ?_
    refine RL.nil ?_
    refine Fin.next ?_
    refine CW.seq ?_
    refine CW.region ?_
    refine RL.y rfl (y_mov (v := .string _) rfl) ?_
    refine RL.call rfl (implReadProfile_any (by omega)) ?_
    rintro r w12 ⟨rfl, rfl⟩
    refine RL.y rfl (y_mov (by conv => lhs; whnf)) ?_
    refine RL.y rfl (y_ext0 rfl) ?_
    refine RL.y rfl (y_ext1 rfl) ?_
    refine RL.y rfl (y_asg (v := .int _ _) rfl) ?_
    refine RL.y rfl (y_asg (v := .int _ _) rfl) ?_
    refine RL.nil ?_
    refine Fin.next ?_
    refine CW.seq ?_
    refine CW.region ?_
    refine RL.y rfl (y_mov (v := .string _) rfl) ?_
    refine RL.call rfl (specReadProfile_any (by omega)) ?_
    rintro r w13 ⟨rfl, hX13⟩
    have hsz13 := hX13.size
    replace ho2x1 := ho2x1.ext hX13
    replace ho3x1 := ho3x1.ext hX13
    replace ho4x1 := ho4x1.ext hX13
    have hE13 := hE11.trans hX13
    refine RL.y rfl (y_mov (by conv => lhs; whnf)) ?_
    refine RL.y rfl (y_ext0 rfl) ?_
    refine RL.y rfl (y_ext1 rfl) ?_
    refine RL.y rfl (y_asg (v := .int _ _) rfl) ?_
    refine RL.y rfl (y_asg (v := .int _ _) rfl) ?_
    refine RL.nil ?_
    refine Fin.next ?_
    refine CW.seq ?_
    refine CW.seq ?_
    refine CW.region ?_
    refine RL.y rfl (y_mov (v := .int _ _) rfl) ?_
    refine RL.y rfl (y_mov (v := .int _ _) rfl) ?_
    refine RL.y rfl (y_ne rfl rfl) ?_
    refine RL.y rfl (y_mov (v := .bool _) rfl) ?_
    refine RL.force (t := 94) false rfl rfl (by first | (simp; done) | exact decide_eq_false (by omega) | (simp [*]; done) | assumption) ?_
    refine RL.take (t := 94) rfl rfl rfl ?_
    refine RL.y rfl (y_mov (by conv => lhs; whnf)) ?_
    refine RL.take (t := 94) rfl rfl rfl ?_
    refine RL.y rfl (y_mov (by conv => lhs; whnf)) ?_
    refine RL.take (t := 94) rfl rfl rfl ?_
    refine RL.call rfl (likeInts_any ho3x1.sv ho4x1.sv) ?_
    rintro r w14 ⟨rfl, hX14⟩
    have hsz14 := hX14.size
    replace ho2x1 := ho2x1.ext hX14
    replace ho3x1 := ho3x1.ext hX14
    replace ho4x1 := ho4x1.ext hX14
    have hE14 := hE13.trans hX14
    refine RL.take (t := 94) rfl rfl rfl ?_
    refine RL.y rfl (y_not rfl) ?_
    refine RL.y rfl (y_pickF (v := .bool _) rfl rfl) ?_
    refine RL.y rfl (y_mov (v := .bool _) rfl) ?_
    refine RL.force (t := 100) false rfl rfl (by first | (simp; done) | exact decide_eq_false (by omega) | (simp [*]; done) | assumption) ?_
    refine RL.take (t := 100) rfl rfl rfl ?_
    refine RL.y rfl (y_mov (v := .int _ _) rfl) ?_
    refine RL.take (t := 100) rfl rfl rfl ?_
    refine RL.y rfl (y_mov (v := .int _ _) rfl) ?_
    refine RL.take (t := 100) rfl rfl rfl ?_
    refine RL.y rfl (y_ne rfl rfl) ?_
    refine RL.y rfl (y_pickF (v := .bool _) rfl rfl) ?_
    refine RL.y rfl (y_mov (v := .bool _) rfl) ?_
    refine RL.force (t := 105) false rfl rfl (by first | (simp; done) | exact decide_eq_false (by omega) | (simp [*]; done) | assumption) ?_
    refine RL.take (t := 105) rfl rfl rfl ?_
    refine RL.y rfl (y_mov (v := .bool _) rfl) ?_
    refine RL.take (t := 105) rfl rfl rfl ?_
    refine RL.y rfl (y_mov (v := .bool _) rfl) ?_
    refine RL.take (t := 105) rfl rfl rfl ?_
    refine RL.y rfl (y_bne Try.underlying4 rfl rfl) ?_
    refine RL.y rfl (y_pickF (v := .bool _) rfl rfl) ?_
    refine RL.y rfl (y_mov (v := .bool _) rfl) ?_
    refine RL.force (t := 110) false rfl rfl (by first | (simp; done) | exact decide_eq_false (by omega) | (simp [*]; done) | assumption) ?_
    refine RL.take (t := 110) rfl rfl rfl ?_
    refine RL.y rfl (y_mov (v := .int _ _) rfl) ?_
    refine RL.take (t := 110) rfl rfl rfl ?_
    refine RL.y rfl (y_mov (v := .int _ _) rfl) ?_
    refine RL.take (t := 110) rfl rfl rfl ?_
    refine RL.y rfl (y_ne rfl rfl) ?_
    refine RL.y rfl (y_pickF (v := .bool _) rfl rfl) ?_
    refine RL.y rfl (y_mov (v := .bool _) rfl) ?_
    refine RL.force (t := 115) false rfl rfl (by first | (simp; done) | exact decide_eq_false (by omega) | (simp [*]; done) | assumption) ?_
    refine RL.take (t := 115) rfl rfl rfl ?_
    refine RL.y rfl (y_mov (v := .string _) rfl) ?_
    refine RL.take (t := 115) rfl rfl rfl ?_
    refine RL.y rfl (y_mov (v := .string _) rfl) ?_
    refine RL.take (t := 115) rfl rfl rfl ?_
    refine RL.y rfl (y_sne rfl rfl) ?_
    refine RL.y rfl (y_pickF (v := .bool _) rfl rfl) ?_
    refine RL.y rfl (y_mov (v := .bool _) rfl) ?_
    refine RL.force (t := 120) false rfl rfl (by first | (simp; done) | exact decide_eq_false (by omega) | (simp [*]; done) | assumption) ?_
    refine RL.take (t := 120) rfl rfl rfl ?_
    refine RL.y rfl (y_mov (v := .int _ _) rfl) ?_
    refine RL.take (t := 120) rfl rfl rfl ?_
    refine RL.y rfl (y_mov (v := .int _ _) rfl) ?_
    refine RL.take (t := 120) rfl rfl rfl ?_
    refine RL.y rfl (y_ne rfl rfl) ?_
    refine RL.y rfl (y_pickF (v := .bool _) rfl rfl) ?_
    refine RL.y rfl (y_mov (v := .bool _) rfl) ?_
    refine RL.force (t := 125) false rfl rfl (by first | (simp; done) | exact decide_eq_false (by omega) | (simp [*]; done) | assumption) ?_
    refine RL.take (t := 125) rfl rfl rfl ?_
    refine RL.y rfl (y_mov (v := .int _ _) rfl) ?_
    refine RL.take (t := 125) rfl rfl rfl ?_
    refine RL.y rfl (y_mov (v := .int _ _) rfl) ?_
    refine RL.take (t := 125) rfl rfl rfl ?_
    refine RL.y rfl (y_ne rfl rfl) ?_
    refine RL.y rfl (y_pickF (v := .bool _) rfl rfl) ?_
    refine RL.nil ?_
    refine Fin.next ?_
    refine CW.condF rfl (by first | (simp; done) | exact decide_eq_false (by omega) | (simp [*]; done) | assumption) ?_
    refine CW.skip ?_
    refine Fin.next ?_
    refine CW.seq ?_
    refine CW.seq ?_
    refine CW.region ?_
    refine RL.y rfl (y_mov (v := .int _ _) rfl) ?_
    refine RL.y rfl (y_eq rfl rfl) ?_
    refine RL.nil ?_
    refine Fin.next ?_
    refine CW.cond rfl rfl (fun h1 => ?_) (fun h1 => ?_)
    · with_reducible first | (replace h1 := deNF h1) | (replace h1 := of_decide_eq_true h1) | (replace h1 := of_decide_eq_false h1) | (replace h1 := deNT h1) | (replace h1 := deNN h1) | (replace h1 := bnT h1) | (replace h1 := bnF h1) | skip
      obtain ⟨f1, f2⟩ := text_back h1
      have hpl := ptL_len x8
      refine CW.seq ?_
      refine CW.region ?_
      refine RL.y rfl (y_mov (v := .string _) rfl) ?_
      refine RL.call rfl (implReadProfile_any (by omega)) ?_
      rintro r w15 ⟨rfl, rfl⟩
      refine RL.y rfl (y_mov (by conv => lhs; whnf)) ?_
      refine RL.y rfl (y_ext0 rfl) ?_
      refine RL.y rfl (y_ext1 rfl) ?_
      refine RL.y rfl (y_asg (v := .int _ _) rfl) ?_
      refine RL.y rfl (y_asg (v := .int _ _) rfl) ?_
      refine RL.nil ?_
      refine Fin.next ?_
      refine CW.seq ?_
      refine CW.region ?_
      refine RL.y rfl (y_mov (v := .int _ _) rfl) ?_
      refine RL.y rfl (y_ne rfl rfl) ?_
      refine RL.y rfl (y_mov (v := .bool _) rfl) ?_
      refine RL.force (t := 139) false rfl rfl ((decide_eq_false (not_not_intro f1))) ?_
      refine RL.take (t := 139) rfl rfl rfl ?_
      refine RL.y rfl (y_mov (v := .int _ _) rfl) ?_
      refine RL.take (t := 139) rfl rfl rfl ?_
      refine RL.y rfl (y_mov (v := .int _ _) rfl) ?_
      refine RL.take (t := 139) rfl rfl rfl ?_
      refine RL.y rfl (y_ne rfl rfl) ?_
      refine RL.y rfl (y_pickF (v := .bool _) rfl rfl) ?_
      refine RL.nil ?_
      refine Fin.next ?_
      refine CW.condF rfl ((decide_eq_false (not_not_intro f2))) ?_
      refine CW.skip ?_
      refine Fin.next ?_
      refine CW.seq ?_
      refine CW.seq ?_
      refine CW.region ?_
      refine RL.y rfl (y_mov (v := .int _ _) rfl) ?_
      refine RL.y rfl (y_ne rfl rfl) ?_
      refine RL.nil ?_
      refine Fin.next ?_
      refine CW.cond rfl rfl (fun h2 => ?_) (fun h2 => ?_)
      · with_reducible first | (replace h2 := deNF h2) | (replace h2 := of_decide_eq_true h2) | (replace h2 := of_decide_eq_false h2) | (replace h2 := deNT h2) | (replace h2 := deNN h2) | (replace h2 := bnT h2) | (replace h2 := bnF h2) | skip
        refine CW.seq ?_
        refine CW.region ?_
        refine RL.y rfl (y_asg rfl) ?_
        refine RL.nil ?_
        refine Fin.next ?_
        refine CW.ret ?_
        refine Fin.thenRet ?_
        refine Fin.ret1 rfl (by conv => lhs; whnf) ?_
        exact ⟨_, rfl, rfl, hE14⟩
      · with_reducible first | (replace h2 := deNF h2) | (replace h2 := of_decide_eq_true h2) | (replace h2 := of_decide_eq_false h2) | (replace h2 := deNT h2) | (replace h2 := deNN h2) | (replace h2 := bnT h2) | (replace h2 := bnF h2) | skip
        refine CW.skip ?_
        refine Fin.next ?_
        refine CW.seq ?_
        refine CW.region ?_
        refine RL.y rfl (y_mov (v := .int _ _) rfl) ?_
        refine RL.y rfl (y_mov (by conv => lhs; whnf)) ?_
        refine RL.call rfl (roll_any (hs0.ext hE14)) ?_
        rintro r wp ⟨rfl, ⟨sd, hVp⟩, hXp⟩
        refine RL.call rfl (below_any hVp ((hs0.ext hE14).ext hXp) (fun x hx h0 => (hs0.ext hE14).lt (by rw [bytes_len]; exact h0) x hx)) ?_
        rintro r wq ⟨xq, rfl, hxq, hMq⟩
        have hXq := hXp.then_mod hMq (Nat.le_refl _)
        replace ho2x1 := ho2x1.ext hXq
        replace ho3x1 := ho3x1.ext hXq
        replace ho4x1 := ho4x1.ext hXq
        have hEq := hE14.trans hXq
        have hszq := hXq.size
        obtain ⟨e1, e2⟩ := less_ways h2 (show prof xq from ⟨hxq.1, by omega⟩)
        have hwl := woL_le x2 ns2
        refine RL.y rfl (y_and rfl rfl rfl) ?_
        refine RL.y rfl (y_asg (v := .int _ _) rfl) ?_
        refine RL.nil ?_
        refine Fin.next ?_
        refine CW.seq ?_
        refine CW.region ?_
        refine RL.y rfl (y_mov (v := .int _ _) rfl) ?_
        refine RL.y rfl (y_mov (by conv => lhs; whnf)) ?_
        refine RL.call rfl (implWaysOf_any ho2x1.sv) ?_
        rintro r w16 ⟨v16, rfl, ho16x1, hX16⟩
        have hsz16 := hX16.size
        replace ho2x1 := ho2x1.ext hX16
        replace ho3x1 := ho3x1.ext hX16
        replace ho4x1 := ho4x1.ext hX16
        have hE16 := hEq.trans hX16
        replace ho16x1 := OU.of ho16x1
        refine RL.y rfl (y_mov (by conv => lhs; whnf)) ?_
        refine RL.y rfl (y_ext0 rfl) ?_
        refine RL.y rfl (y_ext1 rfl) ?_
        refine RL.y rfl (y_asg (by conv => lhs; whnf)) ?_
        refine RL.y rfl (y_asg (v := .int _ _) rfl) ?_
        refine RL.nil ?_
        refine Fin.next ?_
        refine CW.seq ?_
        refine CW.seq ?_
        refine CW.region ?_
        refine RL.y rfl (y_asg rfl) ?_
        refine RL.nil ?_
        refine Fin.next ?_
        refine CW.block ?_
        refine CW.loop (fun m E w' => ∃ i : Nat, m = (woL x2 ns2).length - i ∧ i ≤ (woL x2 ns2).length ∧ agrees E [(5, v3), (28, v16), (29, .int .i64 (woC (bAnd .i64 x2 xq) ns2)), (30, .int .i64 (i : Int))] ∧ Ext w16 w') _ ⟨0, rfl, Nat.zero_le _, ⟨rfl, rfl, rfl, rfl, trivial⟩, Ext.refl _⟩ ?_
        · rintro m E w51 ⟨i, rfl, hki, hagi, hL1⟩
          refine CW.re _ hagi rfl ?_
          clear hagi
          replace ho2x1 := ho2x1.ext hL1
          replace ho3x1 := ho3x1.ext hL1
          replace ho4x1 := ho4x1.ext hL1
          replace ho16x1 := ho16x1.ext hL1
          have hE1l := hE16.trans hL1
          refine CW.seq ?_
          refine CW.seq ?_
          refine CW.region ?_
          refine RL.y rfl (y_mov (v := .int _ _) rfl) ?_
          refine RL.y rfl (y_mov (by conv => lhs; whnf)) ?_
          refine RL.y rfl (y_len sT32 ho3x1.sv (ints_len _) rfl) ?_
          refine RL.y rfl (y_lt rfl rfl) ?_
          refine RL.nil ?_
          refine Fin.next ?_
          refine CW.cond rfl rfl (fun hci => ?_) (fun hci => ?_)
          · with_reducible first | (replace hci := deNF hci) | (replace hci := of_decide_eq_true hci) | (replace hci := of_decide_eq_false hci) | (replace hci := deNT hci) | (replace hci := deNN hci) | (replace hci := bnT hci) | (replace hci := bnF hci) | skip
            have hlti : i < (woL x2 ns2).length := by omega
            refine CW.skip ?_
            refine Fin.next ?_
            refine CW.seq ?_
            refine CW.block ?_
            refine CW.seq ?_
            refine CW.region ?_
            refine RL.y rfl (y_mov (by conv => lhs; whnf)) ?_
            refine RL.y rfl (y_mov (by conv => lhs; whnf)) ?_
            refine RL.y rfl (y_mov (v := .int _ _) rfl) ?_
            refine RL.y rfl (y_ixa sT32 (eqw (ho3x1.sv)) (k := i) (ints_lt hlti) rfl rfl) ?_
            refine RL.y rfl (y_load sc2 (eqw (ho3x1.sv)) (B.ints_at hlti) rfl) ?_
            refine RL.call rfl (hasInt_any ho16x1.sv) ?_
            rintro r w17 ⟨rfl, rfl⟩
            refine RL.y rfl (y_not rfl) ?_
            refine RL.nil ?_
            refine Fin.next ?_
            refine CW.condF rfl ((by simp [e2 _ (List.getElem_mem hlti)])) ?_
            refine CW.skip ?_
            refine Fin.blockNormal ?_
            refine Fin.next ?_
            refine CW.region ?_
            refine RL.y rfl (y_mov (v := .int _ _) rfl) ?_
            refine RL.y rfl (y_add rfl rfl (IntWalk.i64_in _ (by omega))) ?_
            refine RL.y rfl (y_asg (v := .int _ _) rfl) ?_
            refine RL.nil ?_
            refine Fin.le ?_
            exact ⟨(woL x2 ns2).length - (i + 1), by omega, i + 1, rfl, hlti, ⟨rfl, rfl, rfl, rfl, trivial⟩, hL1⟩
          · with_reducible first | (replace hci := deNF hci) | (replace hci := of_decide_eq_true hci) | (replace hci := of_decide_eq_false hci) | (replace hci := deNT hci) | (replace hci := deNN hci) | (replace hci := bnT hci) | (replace hci := bnF hci) | skip
            obtain rfl : (woL x2 ns2).length = i := by omega
            refine CW.exit ?_
            refine Fin.thenExit ?_
            refine Fin.thenExit ?_
            refine Fin.blockHit ?_
            refine Fin.next ?_
            refine CW.seq ?_
            refine CW.region ?_
            refine RL.y rfl (y_mov (v := .int _ _) rfl) ?_
            refine RL.y rfl (y_eq rfl rfl) ?_
            refine RL.y rfl (y_asg (v := .bool _) rfl) ?_
            refine RL.nil ?_
            refine Fin.next ?_
            refine CW.ret ?_
            refine Fin.ret1 rfl (by conv => lhs; whnf) ?_
            exact ⟨_, rfl, congrArg Value.bool (decide_eq_true e1), hE1l⟩
    · with_reducible first | (replace h1 := deNF h1) | (replace h1 := of_decide_eq_true h1) | (replace h1 := of_decide_eq_false h1) | (replace h1 := deNT h1) | (replace h1 := deNN h1) | (replace h1 := bnT h1) | (replace h1 := bnF h1) | skip
      refine CW.skip ?_
      refine Fin.next ?_
      refine CW.seq ?_
      refine CW.seq ?_
      refine CW.region ?_
      refine RL.y rfl (y_mov (v := .int _ _) rfl) ?_
      refine RL.y rfl (y_ne rfl rfl) ?_
      refine RL.nil ?_
      refine Fin.next ?_
      refine CW.cond rfl rfl (fun h2 => ?_) (fun h2 => ?_)
      · with_reducible first | (replace h2 := deNF h2) | (replace h2 := of_decide_eq_true h2) | (replace h2 := of_decide_eq_false h2) | (replace h2 := deNT h2) | (replace h2 := deNN h2) | (replace h2 := bnT h2) | (replace h2 := bnF h2) | skip
        refine CW.seq ?_
        refine CW.region ?_
        refine RL.y rfl (y_asg rfl) ?_
        refine RL.nil ?_
        refine Fin.next ?_
        refine CW.ret ?_
        refine Fin.thenRet ?_
        refine Fin.ret1 rfl (by conv => lhs; whnf) ?_
        exact ⟨_, rfl, rfl, hE14⟩
      · with_reducible first | (replace h2 := deNF h2) | (replace h2 := of_decide_eq_true h2) | (replace h2 := of_decide_eq_false h2) | (replace h2 := deNT h2) | (replace h2 := deNN h2) | (replace h2 := bnT h2) | (replace h2 := bnF h2) | skip
        refine CW.skip ?_
        refine Fin.next ?_
        refine CW.seq ?_
        refine CW.region ?_
        refine RL.y rfl (y_mov (v := .int _ _) rfl) ?_
        refine RL.y rfl (y_mov (by conv => lhs; whnf)) ?_
        refine RL.call rfl (roll_any (hs0.ext hE14)) ?_
        rintro r wp ⟨rfl, ⟨sd, hVp⟩, hXp⟩
        refine RL.call rfl (below_any hVp ((hs0.ext hE14).ext hXp) (fun x hx h0 => (hs0.ext hE14).lt (by rw [bytes_len]; exact h0) x hx)) ?_
        rintro r wq ⟨xq, rfl, hxq, hMq⟩
        have hXq := hXp.then_mod hMq (Nat.le_refl _)
        replace ho2x1 := ho2x1.ext hXq
        replace ho3x1 := ho3x1.ext hXq
        replace ho4x1 := ho4x1.ext hXq
        have hEq := hE14.trans hXq
        have hszq := hXq.size
        obtain ⟨e1, e2⟩ := less_ways h2 (show prof xq from ⟨hxq.1, by omega⟩)
        have hwl := woL_le x2 ns2
        refine RL.y rfl (y_and rfl rfl rfl) ?_
        refine RL.y rfl (y_asg (v := .int _ _) rfl) ?_
        refine RL.nil ?_
        refine Fin.next ?_
        refine CW.seq ?_
        refine CW.region ?_
        refine RL.y rfl (y_mov (v := .int _ _) rfl) ?_
        refine RL.y rfl (y_mov (by conv => lhs; whnf)) ?_
        refine RL.call rfl (implWaysOf_any ho2x1.sv) ?_
        rintro r w18 ⟨v18, rfl, ho18x1, hX18⟩
        have hsz18 := hX18.size
        replace ho2x1 := ho2x1.ext hX18
        replace ho3x1 := ho3x1.ext hX18
        replace ho4x1 := ho4x1.ext hX18
        have hE18 := hEq.trans hX18
        replace ho18x1 := OU.of ho18x1
        refine RL.y rfl (y_mov (by conv => lhs; whnf)) ?_
        refine RL.y rfl (y_ext0 rfl) ?_
        refine RL.y rfl (y_ext1 rfl) ?_
        refine RL.y rfl (y_asg (by conv => lhs; whnf)) ?_
        refine RL.y rfl (y_asg (v := .int _ _) rfl) ?_
        refine RL.nil ?_
        refine Fin.next ?_
        refine CW.seq ?_
        refine CW.seq ?_
        refine CW.region ?_
        refine RL.y rfl (y_asg rfl) ?_
        refine RL.nil ?_
        refine Fin.next ?_
        refine CW.block ?_
        refine CW.loop (fun m E w' => ∃ i : Nat, m = (woL x2 ns2).length - i ∧ i ≤ (woL x2 ns2).length ∧ agrees E [(5, v3), (28, v18), (29, .int .i64 (woC (bAnd .i64 x2 xq) ns2)), (30, .int .i64 (i : Int))] ∧ Ext w18 w') _ ⟨0, rfl, Nat.zero_le _, ⟨rfl, rfl, rfl, rfl, trivial⟩, Ext.refl _⟩ ?_
        · rintro m E w51 ⟨i, rfl, hki, hagi, hL1⟩
          refine CW.re _ hagi rfl ?_
          clear hagi
          replace ho2x1 := ho2x1.ext hL1
          replace ho3x1 := ho3x1.ext hL1
          replace ho4x1 := ho4x1.ext hL1
          replace ho18x1 := ho18x1.ext hL1
          have hE1l := hE18.trans hL1
          refine CW.seq ?_
          refine CW.seq ?_
          refine CW.region ?_
          refine RL.y rfl (y_mov (v := .int _ _) rfl) ?_
          refine RL.y rfl (y_mov (by conv => lhs; whnf)) ?_
          refine RL.y rfl (y_len sT32 ho3x1.sv (ints_len _) rfl) ?_
          refine RL.y rfl (y_lt rfl rfl) ?_
          refine RL.nil ?_
          refine Fin.next ?_
          refine CW.cond rfl rfl (fun hci => ?_) (fun hci => ?_)
          · with_reducible first | (replace hci := deNF hci) | (replace hci := of_decide_eq_true hci) | (replace hci := of_decide_eq_false hci) | (replace hci := deNT hci) | (replace hci := deNN hci) | (replace hci := bnT hci) | (replace hci := bnF hci) | skip
            have hlti : i < (woL x2 ns2).length := by omega
            refine CW.skip ?_
            refine Fin.next ?_
            refine CW.seq ?_
            refine CW.block ?_
            refine CW.seq ?_
            refine CW.region ?_
            refine RL.y rfl (y_mov (by conv => lhs; whnf)) ?_
            refine RL.y rfl (y_mov (by conv => lhs; whnf)) ?_
            refine RL.y rfl (y_mov (v := .int _ _) rfl) ?_
            refine RL.y rfl (y_ixa sT32 (eqw (ho3x1.sv)) (k := i) (ints_lt hlti) rfl rfl) ?_
            refine RL.y rfl (y_load sc2 (eqw (ho3x1.sv)) (B.ints_at hlti) rfl) ?_
            refine RL.call rfl (hasInt_any ho18x1.sv) ?_
            rintro r w19 ⟨rfl, rfl⟩
            refine RL.y rfl (y_not rfl) ?_
            refine RL.nil ?_
            refine Fin.next ?_
            refine CW.condF rfl ((by simp [e2 _ (List.getElem_mem hlti)])) ?_
            refine CW.skip ?_
            refine Fin.blockNormal ?_
            refine Fin.next ?_
            refine CW.region ?_
            refine RL.y rfl (y_mov (v := .int _ _) rfl) ?_
            refine RL.y rfl (y_add rfl rfl (IntWalk.i64_in _ (by omega))) ?_
            refine RL.y rfl (y_asg (v := .int _ _) rfl) ?_
            refine RL.nil ?_
            refine Fin.le ?_
            exact ⟨(woL x2 ns2).length - (i + 1), by omega, i + 1, rfl, hlti, ⟨rfl, rfl, rfl, rfl, trivial⟩, hL1⟩
          · with_reducible first | (replace hci := deNF hci) | (replace hci := of_decide_eq_true hci) | (replace hci := of_decide_eq_false hci) | (replace hci := deNT hci) | (replace hci := deNN hci) | (replace hci := bnT hci) | (replace hci := bnF hci) | skip
            obtain rfl : (woL x2 ns2).length = i := by omega
            refine CW.exit ?_
            refine Fin.thenExit ?_
            refine Fin.thenExit ?_
            refine Fin.blockHit ?_
            refine Fin.next ?_
            refine CW.seq ?_
            refine CW.region ?_
            refine RL.y rfl (y_mov (v := .int _ _) rfl) ?_
            refine RL.y rfl (y_eq rfl rfl) ?_
            refine RL.y rfl (y_asg (v := .bool _) rfl) ?_
            refine RL.nil ?_
            refine Fin.next ?_
            refine CW.ret ?_
            refine Fin.ret1 rfl (by conv => lhs; whnf) ?_
            exact ⟨_, rfl, congrArg Value.bool (decide_eq_true e1), hE1l⟩
namespace fnProfiles
open Go.ChangeShapes Go.WideShapes Go.ChangeAt Go.RowKit
set_option linter.unusedVariables false
theorem own : ownKnob Try.prog.godebug = none := by kernel_rfl
theorem laidOut : laidOutB Try.prog = true := by kernel_rfl
set_option maxRecDepth 100000 in
theorem lifted (os : Os) (started : os.Started) (H : Type) (enc : TypeId × Value → H) :
    ReturnsInHanded {} Try.checked os 11 .any (Rows.fnProfilesSpec.pre6 enc Try.prog Try.f11 Rows.fnProfilesRow.domain false) (Rows.fnProfilesSpec.post enc Try.prog Try.f11 false true false false) := by
  refine returnsInHanded_of_change (C := Try.checked) own started (by kernel_rfl) Try.func11
    (ChangeSpec.witness6 (enc := enc) (C := Try.checked) false ⟨#[], #[.slice none 0 0], []⟩ 8 (by kernel_rfl) (by kernel_rfl) (by kernel_rfl) (by kernel_rfl)) ?_
  intro W base args ds gs before hval0 hW hcnd _
  have hval : ∀ (j : Nat) t v, Try.f11.params[j]? = some t → args[j]? = some v → Value.okWide Try.prog W .any base t v := hval0
  have hW' := hW
  obtain ⟨p, q, hA0, hV, rfl, hfz, hnd⟩ := hW
  have hA : DataW.TrodAll enc Try.prog W 0 (fun _ => true) true Try.f11.params.toList args.toList ds p := hA0
  rw [Try.params11] at hA hval
  have hkeep := hA
  obtain ⟨v0, vs0, d0, ds0, p0, q0, hargs, rfl, rfl, h0, r0⟩ := trodAll_cons hA
  obtain ⟨rfl, rfl, rfl⟩ := trodAll_nil r0
  obtain rfl : args = #[v0] := by cases args; simp_all
  obtain ⟨rfl, rfl⟩ := trodVars_none hV
  obtain ⟨l0, hs0⟩ := open_SU8 Try.underlying42 Try.underlying5 (by kernel_rfl) (hval 0 42 v0 rfl rfl) h0
  refine (lawProfiles W v0 l0 hs0).calls.mono fun e W' ⟨r, he, hr, hg⟩ => ?_
  subst hr
  subst he
  exact ⟨_, rfl, _, _, _, [] ++ [], _, [], hW', trodAll_cons_mk (shut_bool Try.underlying4 _) trodAll_mk0, trodAll_ext laidOut (by kernel_rfl) hkeep hg (fun x hx => hW'.lt x (List.mem_append_left _ hx)), rfl, hg.frame _, fun h => by cases h⟩
theorem over : Rows.fnProfilesRow.holds Try.pinned (OpenSpec.ofChange Rows.fnProfilesSpec) :=
  OpenClaim.holds_of_wide 11 Try.f11 rfl rfl rfl rfl rfl rfl rfl ⟨rfl, rfl, rfl, rfl, rfl⟩ rfl rfl rfl rfl rfl (by kernel_rfl) Try.func11 (by kernel_rfl)
    (of_decide_eq_true (by kernel_rfl)) (by unfold Func.isWrapper; first | (rw [if_pos (by decide +kernel)]; kernel_rfl) | (rw [if_neg (by decide +kernel)]; exact ⟨rfl, rfl⟩))
    (fun os started H enc _ => lifted os started H enc)
theorem proved : Rows.FnProfilesSaid := over
end fnProfiles
#print axioms fnProfiles.proved
end Go.Proofs.Ytgfaimkbedbanaa
