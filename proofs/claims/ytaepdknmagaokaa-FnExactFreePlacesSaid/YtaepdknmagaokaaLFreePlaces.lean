/-
  The program's FreePlaces returns what the reference's FreePlaces returns, for all arguments; the arguments read behind the call as before it. No condition.
-/
import Derived.Test.YtaepdknmagaokaaFWea4
import Derived.Test.YtaepdknmagaokaaFMarkL
import Derived.Test.YtaepdknmagaokaaLift5
import Derived.Test.YtaepdknmagaokaaRows
namespace Go.Proofs.Ytaepdknmagaokaa
open B Go.RowKit

theorem lawFreePlaces (w : World) (mk0 : Mk) (v1 : Value) (ss1 : List (List Int)) (hs1 : RdL w v1 ss1) (_ : ∀ r ∈ ss1, ∀ x ∈ r, I64 x) (a2 : Int) (_ : I64 a2) (a3 : Int) (_ : I64 a3) :
    Does Try.prog 4 #[mkA mk0, v1, .int .i64 a2, .int .i64 a3] w (fun r w' => r = .bool true ∧ Ext w w') := by
  skip
  obtain ⟨vl1, rfl, _⟩ := id hs1
  have hT1 := sizeN_tot ss1
  have hR := frV_len mk0 ss1 a2 a3
  refine enter Try.func4 rfl 114 Try.ntmps4 rfl (by kernel_rfl) ?_
  refine CW.seq ?_
  refine CW.region ?_
  refine RL.box (cs := [.int .i64 mk0.ch, .int .i64 mk0.dp, .int .i64 mk0.st, .int .i64 mk0.sm, .int .i64 mk0.le]) rfl rfl rfl (fun w1 hV1 hX1 => ?_)
  have hsz1 := hX1.size
  have hE1 := hX1
  have hlt1 := hV1.lt
  refine RL.box (cs := [vl1]) rfl rfl rfl (fun w2 hV2 hX2 => ?_)
  have hsz2 := hX2.size
  replace hV1 := hV1.ext hX2
  have hE2 := hE1.trans hX2
  have hlt2 := hV2.lt
  refine RL.y rfl (y_asg rfl) ?_
  refine RL.nil ?_
  refine Fin.next ?_
  refine CW.seq ?_
  refine CW.region ?_
  refine RL.y rfl (y_asg rfl) ?_
  refine RL.nil ?_
  refine Fin.next ?_
  refine CW.seq ?_
  refine CW.region ?_
  refine RL.y rfl (y_loads ag41 rfl (eqw (hV2)) rfl) ?_
  refine RL.y rfl (y_mov (v := .int _ _) rfl) ?_
  refine RL.call rfl (szLock_any (hs1.ext hE2) (by omega) (by omega)) ?_
  rintro r w3 ⟨rfl, hX3⟩
  have hsz3 := hX3.size
  replace hV1 := hV1.ext hX3
  replace hV2 := hV2.ext hX3
  have hE3 := hE2.trans hX3
  refine RL.y rfl (y_asg (v := .int _ _) rfl) ?_
  refine RL.nil ?_
  refine Fin.next ?_
  refine CW.seq ?_
  refine CW.seq ?_
  refine CW.region ?_
  refine RL.y rfl (y_mov (v := .int _ _) rfl) ?_
  refine RL.y rfl (y_lt rfl rfl) ?_
  refine RL.nil ?_
  refine Fin.next ?_
  refine CW.cond rfl rfl (fun hbig1 => ?_) (fun hbig1 => ?_)
  · with_reducible first | (replace hbig1 := deNF hbig1) | (replace hbig1 := of_decide_eq_true hbig1) | (replace hbig1 := of_decide_eq_false hbig1) | (replace hbig1 := deNT hbig1) | (replace hbig1 := deNN hbig1) | (replace hbig1 := bnT hbig1) | (replace hbig1 := bnF hbig1) | skip
    refine CW.seq ?_
    refine CW.region ?_
    refine RL.y rfl (y_asg rfl) ?_
    refine RL.nil ?_
    refine Fin.next ?_
    refine CW.ret ?_
    refine Fin.thenRet ?_
    refine Fin.ret1 rfl (by conv => lhs; whnf) ?_
    exact ⟨_, rfl, rfl, hE3⟩
  · with_reducible first | (replace hbig1 := deNF hbig1) | (replace hbig1 := of_decide_eq_true hbig1) | (replace hbig1 := of_decide_eq_false hbig1) | (replace hbig1 := deNT hbig1) | (replace hbig1 := deNN hbig1) | (replace hbig1 := bnT hbig1) | (replace hbig1 := bnF hbig1) | skip
    obtain ⟨hsz1, hszv1⟩ := szV_ok hbig1
    refine CW.skip ?_
    refine Fin.next ?_
    refine CW.seq ?_
    refine CW.tape (Ext _) [11, 10, 8, 7, 6, 3, 1] mixed (by kernel_rfl) (by kernel_rfl) (Ext.drew _) ?_
    refine TL.y rfl rfl (y_loads ag40 rfl (fun _ hC => (hV1).ext hC) rfl) ?_
    refine TL.op rfl (fun hC => ?_)
    have hD4 := hC
    have hV1z := hV1
    have hV2z := hV2
    replace hV1 := hV1.ext hD4
    replace hV2 := hV2.ext hD4
    have hE4 := hE3.trans hD4
    have hsz4 := hD4.size
    refine RL.call rfl (toMaker_any) ?_
    rintro v w5 ⟨rfl, hX5⟩
    have hsz5 := hX5.size
    replace hV1 := hV1.ext hX5
    replace hV2 := hV2.ext hX5
    have hE5 := hE4.trans hX5
    refine RL.nil ?_
    refine Fin.tl (by first | exact hC | (refine Ext.trans hC ?_; assumption)) ?_
    refine TL.y rfl rfl (y_loads ag41 rfl (fun _ hC => (hV2z).ext hC) rfl) ?_
    refine TL.op rfl (fun hC => ?_)
    refine RL.call rfl (toLock_any (hs1.ext hE5) (by omega)) ?_
    rintro v w6 ⟨ho6x0, hX6⟩
    have hsz6 := hX6.size
    replace hV1 := hV1.ext hX6
    replace hV2 := hV2.ext hX6
    have hE6 := hE5.trans hX6
    replace ho6x0 := OwL.of ho6x0
    obtain ⟨vs6x, rfl, _⟩ := id ho6x0
    refine RL.nil ?_
    refine Fin.tl (by first | exact hC | (refine Ext.trans hC ?_; assumption)) ?_
    refine TL.y rfl rfl (y_mov (v := .int _ _) rfl) ?_
    refine TL.y rfl rfl (y_mov (v := .int _ _) rfl) ?_
    refine TL.op rfl (fun hC => ?_)
    refine RL.call rfl (specFreePlaces_any ho6x0.rd) ?_
    rintro r w7 ⟨v17, rfl, ho7x1, hX7⟩
    have hsz7 := hX7.size
    replace ho6x0 := ho6x0.ext hX7
    replace hV1 := hV1.ext hX7
    replace hV2 := hV2.ext hX7
    have hE7 := hE6.trans hX7
    replace ho7x1 := OU.of ho7x1
    refine RL.nil ?_
    refine Fin.tl (by first | exact hC | (refine Ext.trans hC ?_; assumption)) ?_
    refine TL.yc rfl rfl (y_mov (by conv => lhs; whnf)) ?_
    refine TL.yc rfl rfl (y_ext0 rfl) ?_
    refine TL.y rfl rfl (y_ext1 rfl) ?_
    refine TL.yc rfl rfl (y_asg (by conv => lhs; whnf)) ?_
    refine TL.yc rfl rfl (y_asg (v := .int _ _) rfl) ?_
    refine TL.nil (fun hC => ?_)
    refine Fin.next ?_
    refine CW.seq ?_
    refine CW.region ?_
    refine RL.y rfl (y_loads ag41 rfl (eqw (hV2)) rfl) ?_
    refine RL.call rfl (toLock_any (hs1.ext hE7) (by omega)) ?_
    rintro v w8 ⟨ho8x0, hX8⟩
    have hsz8 := hX8.size
    replace ho6x0 := ho6x0.ext hX8
    replace ho7x1 := ho7x1.ext hX8
    replace hV1 := hV1.ext hX8
    replace hV2 := hV2.ext hX8
    have hE8 := hE7.trans hX8
    replace ho8x0 := OwL.of ho8x0
    obtain ⟨vs8x, rfl, _⟩ := id ho8x0
    refine RL.alloc rfl ze28 (fun w9 hV9 hX9 => ?_)
    have hsz9 := hX9.size
    replace ho6x0 := ho6x0.ext hX9
    replace ho7x1 := ho7x1.ext hX9
    replace ho8x0 := ho8x0.ext hX9
    replace hV1 := hV1.ext hX9
    replace hV2 := hV2.ext hX9
    have hE9 := hE8.trans hX9
    have hlt9 := hV9.lt
    refine RL.stores ag28 (hV9) rfl rfl rfl rfl (ho8x0.one) (fun w10 hV10 hg10 => ?_)
    have hM10 := grown_mod (B := w8.heap.size) (U := w8.heap.size + 1) hg10 (fun k e => by simp only [Option.some.injEq] at e; omega)
    have hsz10 := hM10.size
    replace ho6x0 := ho6x0.mod hM10 (by omega)
    replace ho7x1 := ho7x1.mod hM10 (by omega)
    replace ho8x0 := ho8x0.mod hM10 (by omega)
    replace hV1 := hV1.mod hM10 (by omega)
    replace hV2 := hV2.mod hM10 (by omega)
    have hE10 := Ext.then_mod hE9 hM10 (by omega)
    refine RL.nil ?_
    refine Fin.next ?_
    refine CW.seq ?_
    refine CW.tape (Ext _) [10, 9, 7, 6, 5, 1] mixed (by kernel_rfl) (by kernel_rfl) (Ext.drew _) ?_
    refine TL.y rfl rfl (y_loads ag40 rfl (fun _ hC => (hV1).ext hC) rfl) ?_
    refine TL.op rfl (fun hC => ?_)
    have hD11 := hC
    have ho6x0z := ho6x0
    have ho7x1z := ho7x1
    have ho8x0z := ho8x0
    have hV1z := hV1
    have hV2z := hV2
    have hV10z := hV10
    replace ho6x0 := ho6x0.ext hD11
    replace ho7x1 := ho7x1.ext hD11
    replace ho8x0 := ho8x0.ext hD11
    replace hV1 := hV1.ext hD11
    replace hV2 := hV2.ext hD11
    replace hV10 := hV10.ext hD11
    have hE11 := hE10.trans hD11
    have hsz11 := hD11.size
    refine RL.call rfl (toMaker_any) ?_
    rintro v w12 ⟨rfl, hX12⟩
    have hsz12 := hX12.size
    replace ho6x0 := ho6x0.ext hX12
    replace ho7x1 := ho7x1.ext hX12
    replace ho8x0 := ho8x0.ext hX12
    replace hV1 := hV1.ext hX12
    replace hV2 := hV2.ext hX12
    replace hV10 := hV10.ext hX12
    have hE12 := hE11.trans hX12
    refine RL.nil ?_
    refine Fin.tl (by first | exact hC | (refine Ext.trans hC ?_; assumption)) ?_
    refine TL.y rfl rfl (y_loads ag28 rfl (fun _ hC => (hV10z).ext hC) rfl) ?_
    refine TL.y rfl rfl (y_mov (v := .int _ _) rfl) ?_
    refine TL.y rfl rfl (y_mov (v := .int _ _) rfl) ?_
    refine TL.op rfl (fun hC => ?_)
    refine RL.call rfl (implFreePlaces_any ho8x0.rd) ?_
    rintro r w13 ⟨v113, rfl, ho13x1, hX13⟩
    have hsz13 := hX13.size
    replace ho6x0 := ho6x0.ext hX13
    replace ho7x1 := ho7x1.ext hX13
    replace ho8x0 := ho8x0.ext hX13
    replace hV1 := hV1.ext hX13
    replace hV2 := hV2.ext hX13
    replace hV10 := hV10.ext hX13
    have hE13 := hE12.trans hX13
    replace ho13x1 := OU.of ho13x1
    refine RL.nil ?_
    refine Fin.tl (by first | exact hC | (refine Ext.trans hC ?_; assumption)) ?_
    refine TL.yc rfl rfl (y_mov (by conv => lhs; whnf)) ?_
    refine TL.yc rfl rfl (y_ext0 rfl) ?_
    refine TL.y rfl rfl (y_ext1 rfl) ?_
    refine TL.yc rfl rfl (y_asg (by conv => lhs; whnf)) ?_
    refine TL.yc rfl rfl (y_asg (v := .int _ _) rfl) ?_
    refine TL.nil (fun hC => ?_)
    refine Fin.next ?_
    refine CW.seq ?_
    refine CW.seq ?_
    refine CW.region ?_
    refine RL.y rfl (y_mov (by conv => lhs; whnf)) ?_
    refine RL.y rfl (y_mov (by conv => lhs; whnf)) ?_
    refine RL.call rfl (eqInt64S_any ho13x1.sv ho7x1.sv) ?_
    rintro r w14 ⟨rfl, hX14⟩
    have hsz14 := hX14.size
    replace ho6x0 := ho6x0.ext hX14
    replace ho7x1 := ho7x1.ext hX14
    replace ho8x0 := ho8x0.ext hX14
    replace ho13x1 := ho13x1.ext hX14
    replace hV1 := hV1.ext hX14
    replace hV2 := hV2.ext hX14
    replace hV10 := hV10.ext hX14
    have hE14 := hE13.trans hX14
    refine RL.y rfl (y_not rfl) ?_
    refine RL.y rfl (y_mov (v := .bool _) rfl) ?_
    refine RL.force (t := 50) false rfl rfl (by first | (simp; done) | exact decide_eq_false (by omega) | (simp [*]; done) | assumption) ?_
    refine RL.take (t := 50) rfl rfl rfl ?_
    refine RL.y rfl (y_mov (v := .int _ _) rfl) ?_
    refine RL.take (t := 50) rfl rfl rfl ?_
    refine RL.y rfl (y_mov (v := .int _ _) rfl) ?_
    refine RL.take (t := 50) rfl rfl rfl ?_
    refine RL.y rfl (y_ne rfl rfl) ?_
    refine RL.y rfl (y_pickF (v := .bool _) rfl rfl) ?_
    refine RL.nil ?_
    refine Fin.next ?_
    refine CW.condF rfl (by first | (simp; done) | exact decide_eq_false (by omega) | (simp [*]; done) | assumption) ?_
    refine CW.skip ?_
    refine Fin.next ?_
    refine CW.seq ?_
    refine CW.seq ?_
    refine CW.tape (Ext _) [4, 3, 2] mixed (by kernel_rfl) (by kernel_rfl) (Ext.drew _) ?_
    refine TL.y rfl rfl (y_loads ag28 rfl (fun _ hC => (hV10).ext hC) rfl) ?_
    refine TL.y rfl rfl (y_loads ag41 rfl (fun _ hC => (hV2).ext hC) rfl) ?_
    refine TL.op rfl (fun hC => ?_)
    have hD15 := hC
    have ho6x0z := ho6x0
    have ho7x1z := ho7x1
    have ho8x0z := ho8x0
    have ho13x1z := ho13x1
    have hV1z := hV1
    have hV2z := hV2
    have hV10z := hV10
    replace ho6x0 := ho6x0.ext hD15
    replace ho7x1 := ho7x1.ext hD15
    replace ho8x0 := ho8x0.ext hD15
    replace ho13x1 := ho13x1.ext hD15
    replace hV1 := hV1.ext hD15
    replace hV2 := hV2.ext hD15
    replace hV10 := hV10.ext hD15
    have hE15 := hE14.trans hD15
    have hsz15 := hD15.size
    refine RL.call rfl (toLock_any (hs1.ext hE15) (by omega)) ?_
    rintro v w16 ⟨ho16x0, hX16⟩
    have hsz16 := hX16.size
    replace ho6x0 := ho6x0.ext hX16
    replace ho7x1 := ho7x1.ext hX16
    replace ho8x0 := ho8x0.ext hX16
    replace ho13x1 := ho13x1.ext hX16
    replace hV1 := hV1.ext hX16
    replace hV2 := hV2.ext hX16
    replace hV10 := hV10.ext hX16
    have hE16 := hE15.trans hX16
    replace ho16x0 := OwL.of ho16x0
    obtain ⟨vs16x, rfl, _⟩ := id ho16x0
    refine RL.nil ?_
    refine Fin.tl (by first | exact hC | (refine Ext.trans hC ?_; assumption)) ?_
    refine TL.op rfl (fun hC => ?_)
    refine RL.call rfl (eqLock_any ho8x0.rd ho16x0.rd) ?_
    rintro r w17 ⟨rfl, hX17⟩
    have hsz17 := hX17.size
    replace ho6x0 := ho6x0.ext hX17
    replace ho7x1 := ho7x1.ext hX17
    replace ho8x0 := ho8x0.ext hX17
    replace ho13x1 := ho13x1.ext hX17
    replace ho16x0 := ho16x0.ext hX17
    replace hV1 := hV1.ext hX17
    replace hV2 := hV2.ext hX17
    replace hV10 := hV10.ext hX17
    have hE17 := hE16.trans hX17
    refine RL.nil ?_
    refine Fin.tl (by first | exact hC | (refine Ext.trans hC ?_; assumption)) ?_
    refine TL.yc rfl rfl (y_not rfl) ?_
    refine TL.nil (fun hC => ?_)
    refine Fin.next ?_
    refine CW.condF rfl (by first | (simp; done) | exact decide_eq_false (by omega) | (simp [*]; done) | assumption) ?_
    refine CW.skip ?_
    refine Fin.next ?_
    refine CW.seq ?_
    refine CW.region ?_
    refine RL.y rfl (y_asg rfl) ?_
    refine RL.nil ?_
    refine Fin.next ?_
    refine CW.seq ?_
    refine CW.region ?_
    refine RL.y rfl (y_loads ag28 rfl (eqw (hV10)) rfl) ?_
    refine RL.y rfl (y_mov (v := .int _ _) rfl) ?_
    refine RL.call rfl (markL_own ho8x0 (by omega) (by omega)) ?_
    rintro r w18 ⟨xs18, k18, rfl, ho18, hh18, hk18, hl18, hM18⟩
    have hsz18 := hM18.size
    replace ho6x0 := ho6x0.mod hM18 (by omega)
    replace ho7x1 := ho7x1.mod hM18 (by omega)
    replace ho13x1 := ho13x1.mod hM18 (by omega)
    replace ho16x0 := ho16x0.mod hM18 (by omega)
    replace hV1 := hV1.mod hM18 (by omega)
    replace hV2 := hV2.mod hM18 (by omega)
    replace hV10 := hV10.mod hM18 (by omega)
    have hE18 := Ext.then_mod hE17 hM18 (by omega)
    clear ho8x0
    refine RL.y rfl (y_asg (v := .int _ _) rfl) ?_
    refine RL.nil ?_
    refine Fin.next ?_
    refine CW.seq ?_
    refine CW.seq ?_
    refine CW.region ?_
    refine RL.y rfl (y_mov (v := .int _ _) rfl) ?_
    refine RL.y rfl (y_lt rfl rfl) ?_
    refine RL.y rfl (y_mov (v := .bool _) rfl) ?_
    refine RL.force (t := 65) false rfl rfl (by first | (simp; done) | exact decide_eq_false (by omega) | (simp [*]; done) | assumption) ?_
    refine RL.take (t := 65) rfl rfl rfl ?_
    refine RL.y rfl (y_mov (by conv => lhs; whnf)) ?_
    refine RL.take (t := 65) rfl rfl rfl ?_
    refine RL.y rfl (y_mov (by conv => lhs; whnf)) ?_
    refine RL.take (t := 65) rfl rfl rfl ?_
    refine RL.call rfl (eqInt64S_any ho13x1.sv ho7x1.sv) ?_
    rintro r w19 ⟨rfl, hX19⟩
    have hsz19 := hX19.size
    replace ho6x0 := ho6x0.ext hX19
    replace ho7x1 := ho7x1.ext hX19
    replace ho18 := ho18.ext hX19
    replace ho13x1 := ho13x1.ext hX19
    replace ho16x0 := ho16x0.ext hX19
    replace hV1 := hV1.ext hX19
    replace hV2 := hV2.ext hX19
    replace hV10 := hV10.ext hX19
    have hE19 := hE18.trans hX19
    refine RL.take (t := 65) rfl rfl rfl ?_
    refine RL.y rfl (y_not rfl) ?_
    refine RL.y rfl (y_pickF (v := .bool _) rfl rfl) ?_
    refine RL.y rfl (y_mov (v := .bool _) rfl) ?_
    refine RL.force (t := 71) false rfl rfl (by first | (simp; done) | exact decide_eq_false (by omega) | (simp [*]; done) | assumption) ?_
    refine RL.take (t := 71) rfl rfl rfl ?_
    refine RL.y rfl (y_mov (v := .int _ _) rfl) ?_
    refine RL.take (t := 71) rfl rfl rfl ?_
    refine RL.y rfl (y_mov (v := .int _ _) rfl) ?_
    refine RL.take (t := 71) rfl rfl rfl ?_
    refine RL.y rfl (y_ne rfl rfl) ?_
    refine RL.y rfl (y_pickF (v := .bool _) rfl rfl) ?_
    refine RL.nil ?_
    refine Fin.next ?_
    refine CW.condF rfl (by first | (simp; done) | exact decide_eq_false (by omega) | (simp [*]; done) | assumption) ?_
    refine CW.skip ?_
    refine Fin.next ?_
    refine CW.seq ?_
    refine CW.region ?_
    refine RL.y rfl (y_asg rfl) ?_
    refine RL.nil ?_
    refine Fin.next ?_
    refine CW.seq ?_
    refine CW.region ?_
    refine RL.y rfl (y_mov (by conv => lhs; whnf)) ?_
    refine RL.y rfl (y_mov (v := .int _ _) rfl) ?_
    refine RL.call rfl (markI_own ho13x1 (by omega) (by omega)) ?_
    rintro r w20 ⟨xs20, k20, rfl, ho20, hh20, hk20, hl20, hM20⟩
    have hsz20 := hM20.size
    replace ho6x0 := ho6x0.mod hM20 (by omega)
    replace ho7x1 := ho7x1.mod hM20 (by omega)
    replace ho18 := ho18.mod hM20 (by omega)
    replace ho16x0 := ho16x0.mod hM20 (by omega)
    replace hV1 := hV1.mod hM20 (by omega)
    replace hV2 := hV2.mod hM20 (by omega)
    replace hV10 := hV10.mod hM20 (by omega)
    have hE20 := Ext.then_mod hE19 hM20 (by omega)
    clear ho13x1
    refine RL.y rfl (y_asg (v := .int _ _) rfl) ?_
    refine RL.nil ?_
    refine Fin.next ?_
    refine CW.seq ?_
    refine CW.region ?_
    refine RL.y rfl (y_asg rfl) ?_
    refine RL.nil ?_
    refine Fin.next ?_
    refine CW.seq ?_
    refine CW.region ?_
    refine RL.y rfl (y_mov (by conv => lhs; whnf)) ?_
    refine RL.y rfl (y_mov (v := .int _ _) rfl) ?_
    refine RL.call rfl (heldInt64S_any ho20.sv (by omega) (by omega)) ?_
    rintro r w21 ⟨rfl, hX21⟩
    have hsz21 := hX21.size
    replace ho6x0 := ho6x0.ext hX21
    replace ho7x1 := ho7x1.ext hX21
    replace ho18 := ho18.ext hX21
    replace ho20 := ho20.ext hX21
    replace ho16x0 := ho16x0.ext hX21
    replace hV1 := hV1.ext hX21
    replace hV2 := hV2.ext hX21
    replace hV10 := hV10.ext hX21
    have hE21 := hE20.trans hX21
    refine RL.y rfl (y_asg (v := .int _ _) rfl) ?_
    refine RL.nil ?_
    refine Fin.next ?_
    refine CW.seq ?_
    refine CW.seq ?_
    refine CW.region ?_
    refine RL.y rfl (y_mov (v := .int _ _) rfl) ?_
    refine RL.y rfl (y_lt rfl rfl) ?_
    refine RL.nil ?_
    refine Fin.next ?_
    refine CW.condF rfl (by first | (simp; done) | exact decide_eq_false (by omega) | (simp [*]; done) | assumption) ?_
    refine CW.skip ?_
    refine Fin.next ?_
    refine CW.seq ?_
    refine CW.seq ?_
    refine CW.region ?_
    refine RL.y rfl (y_mov (v := .int _ _) rfl) ?_
    refine RL.y rfl (y_mov (v := .int _ _) rfl) ?_
    refine RL.y rfl (y_ne rfl rfl) ?_
    refine RL.nil ?_
    refine Fin.next ?_
    refine CW.condF rfl (by first | (simp; done) | exact decide_eq_false (by omega) | (simp [*]; done) | assumption) ?_
    refine CW.skip ?_
    refine Fin.next ?_
    refine CW.seq ?_
    refine CW.tape (Ext _) [11, 10, 8, 7, 6, 3, 1] mixed (by kernel_rfl) (by kernel_rfl) (Ext.drew _) ?_
    refine TL.y rfl rfl (y_loads ag40 rfl (fun _ hC => (hV1).ext hC) rfl) ?_
    refine TL.op rfl (fun hC => ?_)
    have hD22 := hC
    have ho6x0z := ho6x0
    have ho7x1z := ho7x1
    have ho18z := ho18
    have ho20z := ho20
    have ho16x0z := ho16x0
    have hV1z := hV1
    have hV2z := hV2
    have hV10z := hV10
    replace ho6x0 := ho6x0.ext hD22
    replace ho7x1 := ho7x1.ext hD22
    replace ho18 := ho18.ext hD22
    replace ho20 := ho20.ext hD22
    replace ho16x0 := ho16x0.ext hD22
    replace hV1 := hV1.ext hD22
    replace hV2 := hV2.ext hD22
    replace hV10 := hV10.ext hD22
    have hE22 := hE21.trans hD22
    have hsz22 := hD22.size
    refine RL.call rfl (toMaker_any) ?_
    rintro v w23 ⟨rfl, hX23⟩
    have hsz23 := hX23.size
    replace ho6x0 := ho6x0.ext hX23
    replace ho7x1 := ho7x1.ext hX23
    replace ho18 := ho18.ext hX23
    replace ho20 := ho20.ext hX23
    replace ho16x0 := ho16x0.ext hX23
    replace hV1 := hV1.ext hX23
    replace hV2 := hV2.ext hX23
    replace hV10 := hV10.ext hX23
    have hE23 := hE22.trans hX23
    refine RL.nil ?_
    refine Fin.tl (by first | exact hC | (refine Ext.trans hC ?_; assumption)) ?_
    refine TL.y rfl rfl (y_loads ag41 rfl (fun _ hC => (hV2z).ext hC) rfl) ?_
    refine TL.op rfl (fun hC => ?_)
    refine RL.call rfl (toLock_any (hs1.ext hE23) (by omega)) ?_
    rintro v w24 ⟨ho24x0, hX24⟩
    have hsz24 := hX24.size
    replace ho6x0 := ho6x0.ext hX24
    replace ho7x1 := ho7x1.ext hX24
    replace ho18 := ho18.ext hX24
    replace ho20 := ho20.ext hX24
    replace ho16x0 := ho16x0.ext hX24
    replace hV1 := hV1.ext hX24
    replace hV2 := hV2.ext hX24
    replace hV10 := hV10.ext hX24
    have hE24 := hE23.trans hX24
    replace ho24x0 := OwL.of ho24x0
    obtain ⟨vs24x, rfl, _⟩ := id ho24x0
    refine RL.nil ?_
    refine Fin.tl (by first | exact hC | (refine Ext.trans hC ?_; assumption)) ?_
    refine TL.y rfl rfl (y_mov (v := .int _ _) rfl) ?_
    refine TL.y rfl rfl (y_mov (v := .int _ _) rfl) ?_
    refine TL.op rfl (fun hC => ?_)
    refine RL.call rfl (implFreePlaces_any ho24x0.rd) ?_
    rintro r w25 ⟨v125, rfl, ho25x1, hX25⟩
    have hsz25 := hX25.size
    replace ho6x0 := ho6x0.ext hX25
    replace ho7x1 := ho7x1.ext hX25
    replace ho18 := ho18.ext hX25
    replace ho20 := ho20.ext hX25
    replace ho16x0 := ho16x0.ext hX25
    replace ho24x0 := ho24x0.ext hX25
    replace hV1 := hV1.ext hX25
    replace hV2 := hV2.ext hX25
    replace hV10 := hV10.ext hX25
    have hE25 := hE24.trans hX25
    replace ho25x1 := OU.of ho25x1
    refine RL.nil ?_
    refine Fin.tl (by first | exact hC | (refine Ext.trans hC ?_; assumption)) ?_
    refine TL.yc rfl rfl (y_mov (by conv => lhs; whnf)) ?_
    refine TL.yc rfl rfl (y_ext0 rfl) ?_
    refine TL.y rfl rfl (y_ext1 rfl) ?_
    refine TL.yc rfl rfl (y_asg (by conv => lhs; whnf)) ?_
    refine TL.yc rfl rfl (y_asg (v := .int _ _) rfl) ?_
    refine TL.nil (fun hC => ?_)
    refine Fin.next ?_
    refine CW.seq ?_
    refine CW.seq ?_
    refine CW.region ?_
    refine RL.y rfl (y_mov (by conv => lhs; whnf)) ?_
    refine RL.y rfl (y_mov (by conv => lhs; whnf)) ?_
    refine RL.call rfl (eqInt64S_any ho25x1.sv ho7x1.sv) ?_
    rintro r w26 ⟨rfl, hX26⟩
    have hsz26 := hX26.size
    replace ho6x0 := ho6x0.ext hX26
    replace ho7x1 := ho7x1.ext hX26
    replace ho18 := ho18.ext hX26
    replace ho20 := ho20.ext hX26
    replace ho16x0 := ho16x0.ext hX26
    replace ho24x0 := ho24x0.ext hX26
    replace ho25x1 := ho25x1.ext hX26
    replace hV1 := hV1.ext hX26
    replace hV2 := hV2.ext hX26
    replace hV10 := hV10.ext hX26
    have hE26 := hE25.trans hX26
    refine RL.y rfl (y_not rfl) ?_
    refine RL.y rfl (y_mov (v := .bool _) rfl) ?_
    refine RL.force (t := 101) false rfl rfl (by first | (simp; done) | exact decide_eq_false (by omega) | (simp [*]; done) | assumption) ?_
    refine RL.take (t := 101) rfl rfl rfl ?_
    refine RL.y rfl (y_mov (v := .int _ _) rfl) ?_
    refine RL.take (t := 101) rfl rfl rfl ?_
    refine RL.y rfl (y_mov (v := .int _ _) rfl) ?_
    refine RL.take (t := 101) rfl rfl rfl ?_
    refine RL.y rfl (y_ne rfl rfl) ?_
    refine RL.y rfl (y_pickF (v := .bool _) rfl rfl) ?_
    refine RL.nil ?_
    refine Fin.next ?_
    refine CW.condF rfl (by first | (simp; done) | exact decide_eq_false (by omega) | (simp [*]; done) | assumption) ?_
    refine CW.skip ?_
    refine Fin.next ?_
    refine CW.seq ?_
    refine CW.region ?_
    refine RL.y rfl (y_asg rfl) ?_
    refine RL.nil ?_
    refine Fin.next ?_
    refine CW.seq ?_
    refine CW.region ?_
    refine RL.y rfl (y_mov (by conv => lhs; whnf)) ?_
    refine RL.y rfl (y_mov (v := .int _ _) rfl) ?_
    refine RL.call rfl (heldInt64S_any ho20.sv (by omega) (by omega)) ?_
    rintro r w27 ⟨rfl, hX27⟩
    have hsz27 := hX27.size
    replace ho6x0 := ho6x0.ext hX27
    replace ho7x1 := ho7x1.ext hX27
    replace ho18 := ho18.ext hX27
    replace ho20 := ho20.ext hX27
    replace ho16x0 := ho16x0.ext hX27
    replace ho24x0 := ho24x0.ext hX27
    replace ho25x1 := ho25x1.ext hX27
    replace hV1 := hV1.ext hX27
    replace hV2 := hV2.ext hX27
    replace hV10 := hV10.ext hX27
    have hE27 := hE26.trans hX27
    refine RL.y rfl (y_asg (v := .int _ _) rfl) ?_
    refine RL.nil ?_
    refine Fin.next ?_
    refine CW.seq ?_
    refine CW.seq ?_
    refine CW.region ?_
    refine RL.y rfl (y_mov (v := .int _ _) rfl) ?_
    refine RL.y rfl (y_lt rfl rfl) ?_
    refine RL.nil ?_
    refine Fin.next ?_
    refine CW.condF rfl (by first | (simp; done) | exact decide_eq_false (by omega) | (simp [*]; done) | assumption) ?_
    refine CW.skip ?_
    refine Fin.next ?_
    refine CW.seq ?_
    refine CW.seq ?_
    refine CW.region ?_
    refine RL.y rfl (y_mov (v := .int _ _) rfl) ?_
    refine RL.y rfl (y_mov (v := .int _ _) rfl) ?_
    refine RL.y rfl (y_ne rfl rfl) ?_
    refine RL.nil ?_
    refine Fin.next ?_
    refine CW.condF rfl (by first | (simp; done) | exact decide_eq_false (by omega) | (simp [*]; done) | assumption) ?_
    refine CW.skip ?_
    refine Fin.next ?_
    refine CW.seq ?_
    refine CW.region ?_
    refine RL.y rfl (y_asg rfl) ?_
    refine RL.nil ?_
    refine Fin.next ?_
    refine CW.ret ?_
    refine Fin.ret1 rfl (by conv => lhs; whnf) ?_
    exact ⟨_, rfl, rfl, hE27⟩
namespace fnExactFreePlaces
open Go.ChangeShapes Go.WideShapes Go.ChangeAt Go.RowKit
set_option linter.unusedVariables false
theorem own : ownKnob Try.prog.godebug = none := by kernel_rfl
theorem laidOut : laidOutB Try.prog = true := by kernel_rfl
set_option maxRecDepth 100000 in
theorem lifted (os : Os) (started : os.Started) (H : Type) (enc : TypeId × Value → H) :
    ReturnsInHanded {} Try.checked os 4 .any (Rows.fnExactFreePlacesSpec.pre6 enc Try.prog Try.f4 Rows.fnExactFreePlacesRow.domain false) (Rows.fnExactFreePlacesSpec.post enc Try.prog Try.f4 false true false false) := by
  refine returnsInHanded_of_change (C := Try.checked) own started (by kernel_rfl) Try.func4
    (ChangeSpec.witness6 (enc := enc) (C := Try.checked) false ⟨#[], #[.agg #[(.int .i64 0), (.int .i64 0), (.int .i64 0), (.int .i64 0), (.int .i64 0)], .agg #[(.slice none 0 0)], .int .i64 0, .int .i64 0], []⟩ 8 (by kernel_rfl) (by kernel_rfl) (by kernel_rfl) (by kernel_rfl)) ?_
  intro W base args ds gs before hval0 hW hcnd _
  have hval : ∀ (j : Nat) t v, Try.f4.params[j]? = some t → args[j]? = some v → Value.okWide Try.prog W .any base t v := hval0
  have hW' := hW
  obtain ⟨p, q, hA0, hV, rfl, hfz, hnd⟩ := hW
  have hA : DataW.TrodAll enc Try.prog W 0 (fun _ => true) true Try.f4.params.toList args.toList ds p := hA0
  rw [Try.params4] at hA hval
  have hkeep := hA
  obtain ⟨v0, vs0, d0, ds0, p0, q0, hargs, rfl, rfl, h0, r0⟩ := trodAll_cons hA
  obtain ⟨v1, vs1, d1, ds1, p1, q1, rfl, rfl, rfl, h1, r1⟩ := trodAll_cons r0
  obtain ⟨v2, vs2, d2, ds2, p2, q2, rfl, rfl, rfl, h2, r2⟩ := trodAll_cons r1
  obtain ⟨v3, vs3, d3, ds3, p3, q3, rfl, rfl, rfl, h3, r3⟩ := trodAll_cons r2
  obtain ⟨rfl, rfl, rfl⟩ := trodAll_nil r3
  obtain rfl : args = #[v0, v1, v2, v3] := by cases args; simp_all
  obtain ⟨rfl, rfl⟩ := trodVars_none hV
  obtain ⟨ma0, mb0, mc0, md0, me0, hag0, wf0⟩ := open_agg5 Try.underlying40 rfl (by kernel_rfl) (by intro f hf; simp only [List.mem_cons, List.not_mem_nil, or_false] at hf; rcases hf with rfl | rfl | rfl | rfl | rfl <;> exact Try.underlying2) (hval 0 40 v0 rfl rfl) h0
  subst hag0
  obtain ⟨vl1, yl1, n1, hag1, tl1⟩ := open_agg1 Try.underlying41 rfl (by kernel_rfl) (hval 1 41 v1 rfl rfl) h1
  obtain ⟨ss1, hl1, wf1⟩ := open_RdSSt Try.underlying26 Try.underlying29 Try.underlying2 (by kernel_rfl) (by kernel_rfl) tl1
  obtain ⟨a2, rfl, rfl, rfl, w20⟩ := open_int Try.underlying2 (hval 2 2 v2 rfl rfl) h2
  have w2 := I64.of w20
  obtain ⟨a3, rfl, rfl, rfl, w30⟩ := open_int Try.underlying2 (hval 3 2 v3 rfl rfl) h3
  have w3 := I64.of w30
  refine (lawFreePlaces W ⟨ma0, mb0, mc0, md0, me0⟩ v1 ss1 ⟨vl1, hag1, hl1⟩ wf1 a2 w2 a3 w3).calls.mono fun e W' ⟨r, he, hr, hg⟩ => ?_
  subst hr
  subst he
  exact ⟨_, rfl, _, _, _, [] ++ [], _, [], hW', trodAll_cons_mk (shut_bool Try.underlying4 _) trodAll_mk0, trodAll_ext laidOut (by kernel_rfl) hkeep hg (fun x hx => hW'.lt x (List.mem_append_left _ hx)), rfl, hg.frame _, fun h => by cases h⟩
theorem over : Rows.fnExactFreePlacesRow.holds Try.pinned (OpenSpec.ofChange Rows.fnExactFreePlacesSpec) :=
  OpenClaim.holds_of_wide 4 Try.f4 rfl rfl rfl rfl rfl rfl rfl ⟨rfl, rfl, rfl, rfl, rfl⟩ rfl rfl rfl rfl rfl (by kernel_rfl) Try.func4 (by kernel_rfl)
    (of_decide_eq_true (by kernel_rfl)) (by unfold Func.isWrapper; first | (rw [if_pos (by decide +kernel)]; kernel_rfl) | (rw [if_neg (by decide +kernel)]; exact ⟨rfl, rfl⟩))
    (fun os started H enc _ => lifted os started H enc)
theorem proved : Rows.FnExactFreePlacesSaid := over
end fnExactFreePlaces
#print axioms fnExactFreePlaces.proved
end Go.Proofs.Ytaepdknmagaokaa
