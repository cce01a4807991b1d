/-
  The program's DoorsInCommon returns what the reference's DoorsInCommon returns, for all arguments; the arguments read behind the call as before it. No condition.
-/
import Derived.Test.YtaabfkcbkcmneaaFTab2
import Derived.Test.YtaabfkcbkcmneaaLift2
import Derived.Test.YtaabfkcbkcmneaaRows
namespace Go.Proofs.Ytaabfkcbkcmneaa
open B Go.RowKit

theorem lawDoorsInCommon (w : World) (v0 : Value) (xs0 : List (List Int)) (hs0 : RdSS w v0 xs0) (_ : ∀ r ∈ xs0, ∀ x ∈ r, I64 x) (a1 : Int) (_ : I64 a1) (a2 : Int) (_ : I64 a2) :
    Does Try.prog 7 #[v0, .int .i64 a1, .int .i64 a2] w (fun r w' => r = .bool true ∧ Ext w w') := by
  have hT0 := sizeN_tot xs0
  have hR := dcV_len xs0 a1 a2
  refine enter Try.func7 rfl 106 Try.ntmps7 rfl (by kernel_rfl) ?_
  refine CW.seq ?_
  refine CW.region ?_
  refine RL.y rfl (y_asg rfl) ?_
  refine RL.nil ?_
  refine Fin.next ?_
  refine CW.seq ?_
  refine CW.region ?_
  refine RL.y rfl (y_asg rfl) ?_
  refine RL.nil ?_
  refine Fin.next ?_
  refine CW.seq ?_
  refine CW.region ?_
  refine RL.y rfl (y_mov (by conv => lhs; whnf)) ?_
  refine RL.y rfl (y_mov (v := .int _ _) rfl) ?_
  refine RL.call rfl (szInt64SS_any (hs0.ext (Ext.refl w)) (by omega) (by omega)) ?_
  rintro r w1 ⟨rfl, rfl⟩
  refine RL.y rfl (y_asg (v := .int _ _) rfl) ?_
  refine RL.nil ?_
  refine Fin.next ?_
  refine CW.seq ?_
  refine CW.seq ?_
  refine CW.region ?_
  refine RL.y rfl (y_mov (v := .int _ _) rfl) ?_
  refine RL.y rfl (y_lt rfl rfl) ?_
  refine RL.nil ?_
  refine Fin.next ?_
  refine CW.cond rfl rfl (fun hbig1 => ?_) (fun hbig1 => ?_)
  · with_reducible first | (replace hbig1 := deNF hbig1) | (replace hbig1 := of_decide_eq_true hbig1) | (replace hbig1 := of_decide_eq_false hbig1) | (replace hbig1 := deNT hbig1) | (replace hbig1 := deNN hbig1) | (replace hbig1 := bnT hbig1) | (replace hbig1 := bnF hbig1) | skip
    refine CW.seq ?_
    refine CW.region ?_
    refine RL.y rfl (y_asg rfl) ?_
    refine RL.nil ?_
    refine Fin.next ?_
    refine CW.ret ?_
    refine Fin.thenRet ?_
    refine Fin.ret1 rfl (by conv => lhs; whnf) ?_
    exact ⟨_, rfl, rfl, (Ext.refl w)⟩
  · with_reducible first | (replace hbig1 := deNF hbig1) | (replace hbig1 := of_decide_eq_true hbig1) | (replace hbig1 := of_decide_eq_false hbig1) | (replace hbig1 := deNT hbig1) | (replace hbig1 := deNN hbig1) | (replace hbig1 := bnT hbig1) | (replace hbig1 := bnF hbig1) | skip
    obtain ⟨hsz1, hszv1⟩ := szV_ok hbig1
    refine CW.skip ?_
    refine Fin.next ?_
    refine CW.seq ?_
    refine CW.region ?_
    refine RL.y rfl (y_mov (by conv => lhs; whnf)) ?_
    refine RL.call rfl (toInt64SS_any (hs0.ext (Ext.refl w)) (by omega)) ?_
    rintro v w2 ⟨ho2x0, hX2⟩
    have hsz2 := hX2.size
    have hE2 := hX2
    replace ho2x0 := OwSS.of ho2x0
    refine RL.y rfl (y_mov (v := .int _ _) rfl) ?_
    refine RL.y rfl (y_mov (v := .int _ _) rfl) ?_
    refine RL.call rfl (specDoorsInCommon_any ho2x0.rd) ?_
    rintro r w3 ⟨v13, rfl, ho3x1, hX3⟩
    have hsz3 := hX3.size
    replace ho2x0 := ho2x0.ext hX3
    have hE3 := hE2.trans hX3
    replace ho3x1 := OU.of ho3x1
    refine RL.y rfl (y_mov (by conv => lhs; whnf)) ?_
    refine RL.y rfl (y_ext0 rfl) ?_
    refine RL.y rfl (y_ext1 rfl) ?_
    refine RL.y rfl (y_asg (by conv => lhs; whnf)) ?_
    refine RL.y rfl (y_asg (v := .int _ _) rfl) ?_
    refine RL.nil ?_
    refine Fin.next ?_
    refine CW.seq ?_
    refine CW.region ?_
    refine RL.y rfl (y_mov (by conv => lhs; whnf)) ?_
    refine RL.call rfl (toInt64SS_any (hs0.ext hE3) (by omega)) ?_
    rintro v w4 ⟨ho4x0, hX4⟩
    have hsz4 := hX4.size
    replace ho2x0 := ho2x0.ext hX4
    replace ho3x1 := ho3x1.ext hX4
    have hE4 := hE3.trans hX4
    replace ho4x0 := OwSS.of ho4x0
    refine RL.y rfl (y_asg (by conv => lhs; whnf)) ?_
    refine RL.nil ?_
    refine Fin.next ?_
    refine CW.seq ?_
    refine CW.region ?_
    refine RL.y rfl (y_mov (by conv => lhs; whnf)) ?_
    refine RL.y rfl (y_mov (v := .int _ _) rfl) ?_
    refine RL.y rfl (y_mov (v := .int _ _) rfl) ?_
    refine RL.call rfl (implDoorsInCommon_any ho4x0.rd) ?_
    rintro r w5 ⟨v15, rfl, ho5x1, hX5⟩
    have hsz5 := hX5.size
    replace ho2x0 := ho2x0.ext hX5
    replace ho3x1 := ho3x1.ext hX5
    replace ho4x0 := ho4x0.ext hX5
    have hE5 := hE4.trans hX5
    replace ho5x1 := OU.of ho5x1
    refine RL.y rfl (y_mov (by conv => lhs; whnf)) ?_
    refine RL.y rfl (y_ext0 rfl) ?_
    refine RL.y rfl (y_ext1 rfl) ?_
    refine RL.y rfl (y_asg (by conv => lhs; whnf)) ?_
    refine RL.y rfl (y_asg (v := .int _ _) rfl) ?_
    refine RL.nil ?_
    refine Fin.next ?_
    refine CW.seq ?_
    refine CW.seq ?_
    refine CW.region ?_
    refine RL.y rfl (y_mov (by conv => lhs; whnf)) ?_
    refine RL.y rfl (y_mov (by conv => lhs; whnf)) ?_
    refine RL.call rfl (eqInt64S_any ho5x1.sv ho3x1.sv) ?_
    rintro r w6 ⟨rfl, hX6⟩
    have hsz6 := hX6.size
    replace ho2x0 := ho2x0.ext hX6
    replace ho3x1 := ho3x1.ext hX6
    replace ho4x0 := ho4x0.ext hX6
    replace ho5x1 := ho5x1.ext hX6
    have hE6 := hE5.trans hX6
    refine RL.y rfl (y_not rfl) ?_
    refine RL.y rfl (y_mov (v := .bool _) rfl) ?_
    refine RL.force (t := 44) false rfl rfl (by first | (simp; done) | exact decide_eq_false (by omega)) ?_
    refine RL.take (t := 44) rfl rfl rfl ?_
    refine RL.y rfl (y_mov (v := .int _ _) rfl) ?_
    refine RL.take (t := 44) rfl rfl rfl ?_
    refine RL.y rfl (y_mov (v := .int _ _) rfl) ?_
    refine RL.take (t := 44) rfl rfl rfl ?_
    refine RL.y rfl (y_ne rfl rfl) ?_
    refine RL.y rfl (y_pickF (v := .bool _) rfl rfl) ?_
    refine RL.nil ?_
    refine Fin.next ?_
    refine CW.condF rfl (by first | (simp; done) | exact decide_eq_false (by omega)) ?_
    refine CW.skip ?_
    refine Fin.next ?_
    refine CW.seq ?_
    refine CW.seq ?_
    refine CW.region ?_
    refine RL.y rfl (y_mov (by conv => lhs; whnf)) ?_
    refine RL.y rfl (y_mov (by conv => lhs; whnf)) ?_
    refine RL.call rfl (toInt64SS_any (hs0.ext hE6) (by omega)) ?_
    rintro v w7 ⟨ho7x0, hX7⟩
    have hsz7 := hX7.size
    replace ho2x0 := ho2x0.ext hX7
    replace ho3x1 := ho3x1.ext hX7
    replace ho4x0 := ho4x0.ext hX7
    replace ho5x1 := ho5x1.ext hX7
    have hE7 := hE6.trans hX7
    replace ho7x0 := OwSS.of ho7x0
    refine RL.call rfl (eqInt64SS_any ho4x0.rd ho7x0.rd) ?_
    rintro r w8 ⟨rfl, hX8⟩
    have hsz8 := hX8.size
    replace ho2x0 := ho2x0.ext hX8
    replace ho3x1 := ho3x1.ext hX8
    replace ho4x0 := ho4x0.ext hX8
    replace ho5x1 := ho5x1.ext hX8
    replace ho7x0 := ho7x0.ext hX8
    have hE8 := hE7.trans hX8
    refine RL.y rfl (y_not rfl) ?_
    refine RL.nil ?_
    refine Fin.next ?_
    refine CW.condF rfl (by first | (simp; done) | exact decide_eq_false (by omega)) ?_
    refine CW.skip ?_
    refine Fin.next ?_
    refine CW.seq ?_
    refine CW.region ?_
    refine RL.y rfl (y_asg rfl) ?_
    refine RL.nil ?_
    refine Fin.next ?_
    refine CW.seq ?_
    refine CW.region ?_
    refine RL.y rfl (y_mov (by conv => lhs; whnf)) ?_
    refine RL.y rfl (y_mov (v := .int _ _) rfl) ?_
    refine RL.call rfl (markSS_own ho4x0 (by omega) (by omega)) ?_
    rintro r w9 ⟨xs9, k9, rfl, ho9, hh9, hk9, hl9, hM9⟩
    replace ho2x0 := ho2x0.mod hM9 (by omega)
    replace ho3x1 := ho3x1.mod hM9 (by omega)
    replace ho5x1 := ho5x1.mod hM9 (by omega)
    replace ho7x0 := ho7x0.mod hM9 (by omega)
    have hE9 := Ext.then_mod hE8 hM9 (by omega)
    clear ho4x0
    refine RL.y rfl (y_asg (v := .int _ _) rfl) ?_
    refine RL.nil ?_
    refine Fin.next ?_
    refine CW.seq ?_
    refine CW.seq ?_
    refine CW.region ?_
    refine RL.y rfl (y_mov (v := .int _ _) rfl) ?_
    refine RL.y rfl (y_lt rfl rfl) ?_
    refine RL.y rfl (y_mov (v := .bool _) rfl) ?_
    refine RL.force (t := 59) false rfl rfl (by first | (simp; done) | exact decide_eq_false (by omega)) ?_
    refine RL.take (t := 59) rfl rfl rfl ?_
    refine RL.y rfl (y_mov (by conv => lhs; whnf)) ?_
    refine RL.take (t := 59) rfl rfl rfl ?_
    refine RL.y rfl (y_mov (by conv => lhs; whnf)) ?_
    refine RL.take (t := 59) rfl rfl rfl ?_
    refine RL.call rfl (eqInt64S_any ho5x1.sv ho3x1.sv) ?_
    rintro r w10 ⟨rfl, hX10⟩
    have hsz10 := hX10.size
    replace ho2x0 := ho2x0.ext hX10
    replace ho3x1 := ho3x1.ext hX10
    replace ho9 := ho9.ext hX10
    replace ho5x1 := ho5x1.ext hX10
    replace ho7x0 := ho7x0.ext hX10
    have hE10 := hE9.trans hX10
    refine RL.take (t := 59) rfl rfl rfl ?_
    refine RL.y rfl (y_not rfl) ?_
    refine RL.y rfl (y_pickF (v := .bool _) rfl rfl) ?_
    refine RL.y rfl (y_mov (v := .bool _) rfl) ?_
    refine RL.force (t := 65) false rfl rfl (by first | (simp; done) | exact decide_eq_false (by omega)) ?_
    refine RL.take (t := 65) rfl rfl rfl ?_
    refine RL.y rfl (y_mov (v := .int _ _) rfl) ?_
    refine RL.take (t := 65) rfl rfl rfl ?_
    refine RL.y rfl (y_mov (v := .int _ _) rfl) ?_
    refine RL.take (t := 65) rfl rfl rfl ?_
    refine RL.y rfl (y_ne rfl rfl) ?_
    refine RL.y rfl (y_pickF (v := .bool _) rfl rfl) ?_
    refine RL.nil ?_
    refine Fin.next ?_
    refine CW.condF rfl (by first | (simp; done) | exact decide_eq_false (by omega)) ?_
    refine CW.skip ?_
    refine Fin.next ?_
    refine CW.seq ?_
    refine CW.region ?_
    refine RL.y rfl (y_asg rfl) ?_
    refine RL.nil ?_
    refine Fin.next ?_
    refine CW.seq ?_
    refine CW.region ?_
    refine RL.y rfl (y_mov (by conv => lhs; whnf)) ?_
    refine RL.y rfl (y_mov (v := .int _ _) rfl) ?_
    refine RL.call rfl (markI_own ho5x1 (by omega) (by omega)) ?_
    rintro r w11 ⟨xs11, k11, rfl, ho11, hh11, hk11, hl11, hM11⟩
    replace ho2x0 := ho2x0.mod hM11 (by omega)
    replace ho3x1 := ho3x1.mod hM11 (by omega)
    replace ho9 := ho9.mod hM11 (by omega)
    replace ho7x0 := ho7x0.mod hM11 (by omega)
    have hE11 := Ext.then_mod hE10 hM11 (by omega)
    clear ho5x1
    refine RL.y rfl (y_asg (v := .int _ _) rfl) ?_
    refine RL.nil ?_
    refine Fin.next ?_
    refine CW.seq ?_
    refine CW.region ?_
    refine RL.y rfl (y_asg rfl) ?_
    refine RL.nil ?_
    refine Fin.next ?_
    refine CW.seq ?_
    refine CW.region ?_
    refine RL.y rfl (y_mov (by conv => lhs; whnf)) ?_
    refine RL.y rfl (y_mov (v := .int _ _) rfl) ?_
    refine RL.call rfl (heldInt64S_any ho11.sv (by omega) (by omega)) ?_
    rintro r w12 ⟨rfl, hX12⟩
    have hsz12 := hX12.size
    replace ho2x0 := ho2x0.ext hX12
    replace ho3x1 := ho3x1.ext hX12
    replace ho9 := ho9.ext hX12
    replace ho11 := ho11.ext hX12
    replace ho7x0 := ho7x0.ext hX12
    have hE12 := hE11.trans hX12
    refine RL.y rfl (y_asg (v := .int _ _) rfl) ?_
    refine RL.nil ?_
    refine Fin.next ?_
    refine CW.seq ?_
    refine CW.seq ?_
    refine CW.region ?_
    refine RL.y rfl (y_mov (v := .int _ _) rfl) ?_
    refine RL.y rfl (y_lt rfl rfl) ?_
    refine RL.nil ?_
    refine Fin.next ?_
    refine CW.condF rfl (by first | (simp; done) | exact decide_eq_false (by omega)) ?_
    refine CW.skip ?_
    refine Fin.next ?_
    refine CW.seq ?_
    refine CW.seq ?_
    refine CW.region ?_
    refine RL.y rfl (y_mov (v := .int _ _) rfl) ?_
    refine RL.y rfl (y_mov (v := .int _ _) rfl) ?_
    refine RL.y rfl (y_ne rfl rfl) ?_
    refine RL.nil ?_
    refine Fin.next ?_
    refine CW.condF rfl (by first | (simp; done) | exact decide_eq_false (by omega)) ?_
    refine CW.skip ?_
    refine Fin.next ?_
    refine CW.seq ?_
    refine CW.region ?_
    refine RL.y rfl (y_mov (by conv => lhs; whnf)) ?_
    refine RL.call rfl (toInt64SS_any (hs0.ext hE12) (by omega)) ?_
    rintro v w13 ⟨ho13x0, hX13⟩
    have hsz13 := hX13.size
    replace ho2x0 := ho2x0.ext hX13
    replace ho3x1 := ho3x1.ext hX13
    replace ho9 := ho9.ext hX13
    replace ho11 := ho11.ext hX13
    replace ho7x0 := ho7x0.ext hX13
    have hE13 := hE12.trans hX13
    replace ho13x0 := OwSS.of ho13x0
    refine RL.y rfl (y_mov (v := .int _ _) rfl) ?_
    refine RL.y rfl (y_mov (v := .int _ _) rfl) ?_
    refine RL.call rfl (implDoorsInCommon_any ho13x0.rd) ?_
    rintro r w14 ⟨v114, rfl, ho14x1, hX14⟩
    have hsz14 := hX14.size
    replace ho2x0 := ho2x0.ext hX14
    replace ho3x1 := ho3x1.ext hX14
    replace ho9 := ho9.ext hX14
    replace ho11 := ho11.ext hX14
    replace ho7x0 := ho7x0.ext hX14
    replace ho13x0 := ho13x0.ext hX14
    have hE14 := hE13.trans hX14
    replace ho14x1 := OU.of ho14x1
    refine RL.y rfl (y_mov (by conv => lhs; whnf)) ?_
    refine RL.y rfl (y_ext0 rfl) ?_
    refine RL.y rfl (y_ext1 rfl) ?_
    refine RL.y rfl (y_asg (by conv => lhs; whnf)) ?_
    refine RL.y rfl (y_asg (v := .int _ _) rfl) ?_
    refine RL.nil ?_
    refine Fin.next ?_
    refine CW.seq ?_
    refine CW.seq ?_
    refine CW.region ?_
    refine RL.y rfl (y_mov (by conv => lhs; whnf)) ?_
    refine RL.y rfl (y_mov (by conv => lhs; whnf)) ?_
    refine RL.call rfl (eqInt64S_any ho14x1.sv ho3x1.sv) ?_
    rintro r w15 ⟨rfl, hX15⟩
    have hsz15 := hX15.size
    replace ho2x0 := ho2x0.ext hX15
    replace ho3x1 := ho3x1.ext hX15
    replace ho9 := ho9.ext hX15
    replace ho11 := ho11.ext hX15
    replace ho7x0 := ho7x0.ext hX15
    replace ho13x0 := ho13x0.ext hX15
    replace ho14x1 := ho14x1.ext hX15
    have hE15 := hE14.trans hX15
    refine RL.y rfl (y_not rfl) ?_
    refine RL.y rfl (y_mov (v := .bool _) rfl) ?_
    refine RL.force (t := 93) false rfl rfl (by first | (simp; done) | exact decide_eq_false (by omega)) ?_
    refine RL.take (t := 93) rfl rfl rfl ?_
    refine RL.y rfl (y_mov (v := .int _ _) rfl) ?_
    refine RL.take (t := 93) rfl rfl rfl ?_
    refine RL.y rfl (y_mov (v := .int _ _) rfl) ?_
    refine RL.take (t := 93) rfl rfl rfl ?_
    refine RL.y rfl (y_ne rfl rfl) ?_
    refine RL.y rfl (y_pickF (v := .bool _) rfl rfl) ?_
    refine RL.nil ?_
    refine Fin.next ?_
    refine CW.condF rfl (by first | (simp; done) | exact decide_eq_false (by omega)) ?_
    refine CW.skip ?_
    refine Fin.next ?_
    refine CW.seq ?_
    refine CW.region ?_
    refine RL.y rfl (y_asg rfl) ?_
    refine RL.nil ?_
    refine Fin.next ?_
    refine CW.seq ?_
    refine CW.region ?_
    refine RL.y rfl (y_mov (by conv => lhs; whnf)) ?_
    refine RL.y rfl (y_mov (v := .int _ _) rfl) ?_
    refine RL.call rfl (heldInt64S_any ho11.sv (by omega) (by omega)) ?_
    rintro r w16 ⟨rfl, hX16⟩
    have hsz16 := hX16.size
    replace ho2x0 := ho2x0.ext hX16
    replace ho3x1 := ho3x1.ext hX16
    replace ho9 := ho9.ext hX16
    replace ho11 := ho11.ext hX16
    replace ho7x0 := ho7x0.ext hX16
    replace ho13x0 := ho13x0.ext hX16
    replace ho14x1 := ho14x1.ext hX16
    have hE16 := hE15.trans hX16
    refine RL.y rfl (y_asg (v := .int _ _) rfl) ?_
    refine RL.nil ?_
    refine Fin.next ?_
    refine CW.seq ?_
    refine CW.seq ?_
    refine CW.region ?_
    refine RL.y rfl (y_mov (v := .int _ _) rfl) ?_
    refine RL.y rfl (y_lt rfl rfl) ?_
    refine RL.nil ?_
    refine Fin.next ?_
    refine CW.condF rfl (by first | (simp; done) | exact decide_eq_false (by omega)) ?_
    refine CW.skip ?_
    refine Fin.next ?_
    refine CW.seq ?_
    refine CW.seq ?_
    refine CW.region ?_
    refine RL.y rfl (y_mov (v := .int _ _) rfl) ?_
    refine RL.y rfl (y_mov (v := .int _ _) rfl) ?_
    refine RL.y rfl (y_ne rfl rfl) ?_
    refine RL.nil ?_
    refine Fin.next ?_
    refine CW.condF rfl (by first | (simp; done) | exact decide_eq_false (by omega)) ?_
    refine CW.skip ?_
    refine Fin.next ?_
    refine CW.seq ?_
    refine CW.region ?_
    refine RL.y rfl (y_asg rfl) ?_
    refine RL.nil ?_
    refine Fin.next ?_
    refine CW.ret ?_
    refine Fin.ret1 rfl (by conv => lhs; whnf) ?_
    exact ⟨_, rfl, rfl, hE16⟩
namespace fnExactDoorsInCommon
open Go.ChangeShapes Go.WideShapes Go.ChangeAt Go.RowKit
set_option linter.unusedVariables false
theorem own : ownKnob Try.prog.godebug = none := by kernel_rfl
theorem laidOut : laidOutB Try.prog = true := by kernel_rfl
set_option maxRecDepth 100000 in
theorem lifted (os : Os) (started : os.Started) (H : Type) (enc : TypeId × Value → H) :
    ReturnsInHanded {} Try.checked os 7 .any (Rows.fnExactDoorsInCommonSpec.pre6 enc Try.prog Try.f7 Rows.fnExactDoorsInCommonRow.domain false) (Rows.fnExactDoorsInCommonSpec.post enc Try.prog Try.f7 false true false false) := by
  refine returnsInHanded_of_change (C := Try.checked) own started (by kernel_rfl) Try.func7
    (ChangeSpec.witness6 (enc := enc) (C := Try.checked) false ⟨#[], #[.slice none 0 0, .int .i64 0, .int .i64 0], []⟩ 8 (by kernel_rfl) (by kernel_rfl) (by kernel_rfl) (by kernel_rfl)) ?_
  intro W base args ds gs before hval0 hW hcnd _
  have hval : ∀ (j : Nat) t v, Try.f7.params[j]? = some t → args[j]? = some v → Value.okWide Try.prog W .any base t v := hval0
  have hW' := hW
  obtain ⟨p, q, hA0, hV, rfl, hfz, hnd⟩ := hW
  have hA : DataW.TrodAll enc Try.prog W 0 (fun _ => true) true Try.f7.params.toList args.toList ds p := hA0
  rw [Try.params7] at hA hval
  have hkeep := hA
  obtain ⟨v0, vs0, d0, ds0, p0, q0, hargs, rfl, rfl, h0, r0⟩ := trodAll_cons hA
  obtain ⟨v1, vs1, d1, ds1, p1, q1, rfl, rfl, rfl, h1, r1⟩ := trodAll_cons r0
  obtain ⟨v2, vs2, d2, ds2, p2, q2, rfl, rfl, rfl, h2, r2⟩ := trodAll_cons r1
  obtain ⟨rfl, rfl, rfl⟩ := trodAll_nil r2
  obtain rfl : args = #[v0, v1, v2] := by cases args; simp_all
  obtain ⟨rfl, rfl⟩ := trodVars_none hV
  obtain ⟨xs0, hs0, wf0⟩ := open_RdSS Try.underlying22 Try.underlying34 Try.underlying2 (by kernel_rfl) (by kernel_rfl) (hval 0 22 v0 rfl rfl) h0
  obtain ⟨a1, rfl, rfl, rfl, w10⟩ := open_int Try.underlying2 (hval 1 2 v1 rfl rfl) h1
  have w1 := I64.of w10
  obtain ⟨a2, rfl, rfl, rfl, w20⟩ := open_int Try.underlying2 (hval 2 2 v2 rfl rfl) h2
  have w2 := I64.of w20
  refine (lawDoorsInCommon W v0 xs0 hs0 wf0 a1 w1 a2 w2).calls.mono fun e W' ⟨r, he, hr, hg⟩ => ?_
  subst hr
  subst he
  exact ⟨_, rfl, _, _, _, [] ++ [], _, [], hW', trodAll_cons_mk (shut_bool Try.underlying4 _) trodAll_mk0, trodAll_ext laidOut (by kernel_rfl) hkeep hg (fun x hx => hW'.lt x (List.mem_append_left _ hx)), rfl, hg.frame _, fun h => by cases h⟩
theorem over : Rows.fnExactDoorsInCommonRow.holds Try.pinned (OpenSpec.ofChange Rows.fnExactDoorsInCommonSpec) :=
  OpenClaim.holds_of_wide 7 Try.f7 rfl rfl rfl rfl rfl rfl rfl ⟨rfl, rfl, rfl, rfl, rfl⟩ rfl rfl rfl rfl rfl (by kernel_rfl) Try.func7 (by kernel_rfl)
    (of_decide_eq_true (by kernel_rfl)) (by unfold Func.isWrapper; first | (rw [if_pos (by decide +kernel)]; kernel_rfl) | (rw [if_neg (by decide +kernel)]; exact ⟨rfl, rfl⟩))
    (fun os started H enc _ => lifted os started H enc)
theorem proved : Rows.FnExactDoorsInCommonSaid := over
end fnExactDoorsInCommon
#print axioms fnExactDoorsInCommon.proved
end Go.Proofs.Ytaabfkcbkcmneaa
