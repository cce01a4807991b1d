/-
  The program's ReadBuilding returns what the reference's ReadBuilding returns, for all texts that the law takes up. Condition: the listed tables of the library hold what the program's text lays.
-/
import Derived.Test.YtebegkegkdmbjaaDoorFRead2
import Derived.Test.YtebegkegkdmbjaaDoorFMarkB
import Derived.Test.YtebegkegkdmbjaaDoorLift3
import Derived.Test.YtebegkegkdmbjaaDoorShp
import Derived.Test.YtebegkegkdmbjaaDoorRows
import Derived.Test.YtebegkegkdmbjaaDoorCards
import Derived.Test.YtebegkegkdmbjaaDoorTie
import Derived.ProofKit
import Derived.Lay
import Derived.LaidMore
import Derived.OpenShut
import Derived.Stop.Joined
import Derived.SevenTiedAt
namespace Go.Proofs.YtebegkegkdmbjaaDoor
open B Go.RowKit

set_option maxRecDepth 8000 in
theorem lawReadBuilding (w : World) (hf : Lf w) (s0 : List UInt8) (_ : s0.length ≤ maxLen) :
    Does Tryd.prog 3 #[.string ⟨s0.toArray⟩] w (fun r w' => r = .bool true ∧ Ext w w') := by
  have hR := rbP_len (s := s0)
  refine enter Tryd.func3 rfl 66 Tryd.ntmps3 rfl (by kernel_rfl) ?_
  refine CW.seq ?_
  refine CW.region ?_
  refine RL.y rfl (y_asg rfl) ?_
  refine RL.nil ?_
  refine Fin.next ?_
  refine CW.seq ?_
  refine CW.seq ?_
  refine CW.region ?_
  refine RL.y rfl (y_mov (v := .string _) rfl) ?_
  refine RL.y rfl (y_slen Tryd.underlying9 rfl) ?_
  refine RL.y rfl (y_gt rfl rfl) ?_
  refine RL.nil ?_
  refine Fin.next ?_
  refine CW.cond rfl rfl (fun hbig1 => ?_) (fun hbig1 => ?_)
  · with_reducible first | (replace hbig1 := deNF hbig1) | (replace hbig1 := of_decide_eq_true hbig1) | (replace hbig1 := of_decide_eq_false hbig1) | (replace hbig1 := deNT hbig1) | (replace hbig1 := deNN hbig1) | (replace hbig1 := bnT hbig1) | (replace hbig1 := bnF hbig1) | skip
    refine CW.seq ?_
    refine CW.region ?_
    refine RL.y rfl (y_asg rfl) ?_
    refine RL.nil ?_
    refine Fin.next ?_
    refine CW.ret ?_
    refine Fin.thenRet ?_
    refine Fin.ret1 rfl (by conv => lhs; whnf) ?_
    exact ⟨_, rfl, rfl, (Ext.refl w)⟩
  · with_reducible first | (replace hbig1 := deNF hbig1) | (replace hbig1 := of_decide_eq_true hbig1) | (replace hbig1 := of_decide_eq_false hbig1) | (replace hbig1 := deNT hbig1) | (replace hbig1 := deNN hbig1) | (replace hbig1 := bnT hbig1) | (replace hbig1 := bnF hbig1) | skip
    refine CW.skip ?_
    refine Fin.next ?_
    refine CW.seq ?_
    refine CW.region ?_
    refine RL.y rfl (y_mov (v := .string _) rfl) ?_
    refine RL.call rfl (specReadBuilding_any (by omega)) ?_
    rintro r w1 ⟨v11, rfl, ho1x1, hX1⟩
    have hsz1 := hX1.size
    have hE1 := hX1
    replace ho1x1 := RuB.of ho1x1
    obtain ⟨vp1x, vd1x, rfl, _⟩ := id ho1x1
    refine RL.y rfl (y_mov (by conv => lhs; whnf)) ?_
    refine RL.y rfl (y_ext0 rfl) ?_
    refine RL.y rfl (y_ext1 rfl) ?_
    refine RL.alloc rfl ze25 (fun w2 hV2 hX2 => ?_)
    have hsz2 := hX2.size
    replace ho1x1 := ho1x1.ext hX2
    have hE2 := hE1.trans hX2
    have hlt2 := hV2.lt
    refine RL.stores ag25 (hV2) rfl rfl rfl rfl (ho1x1.one) (fun w3 hV3 hg3 => ?_)
    have hM3 := grown_mod (B := w1.heap.size) (U := w1.heap.size + 1) hg3 (fun k e => by simp only [Option.some.injEq] at e; omega)
    have hsz3 := hM3.size
    replace ho1x1 := ho1x1.mod hM3 (by omega)
    have hE3 := Ext.then_mod hE2 hM3 (by omega)
    refine RL.y rfl (y_asg (v := .int _ _) rfl) ?_
    refine RL.nil ?_
    refine Fin.next ?_
    refine CW.seq ?_
    refine CW.region ?_
    refine RL.y rfl (y_mov (v := .string _) rfl) ?_
    refine RL.call rfl (implReadBuilding_any (hf.ext hE3) (by omega)) ?_
    rintro r w4 ⟨v14, rfl, ho4x1, hX4⟩
    have hsz4 := hX4.size
    replace ho1x1 := ho1x1.ext hX4
    replace hV3 := hV3.ext hX4
    have hE4 := hE3.trans hX4
    replace ho4x1 := OwB.of ho4x1
    obtain ⟨vp4x, vd4x, rfl, _⟩ := id ho4x1
    refine RL.y rfl (y_mov (by conv => lhs; whnf)) ?_
    refine RL.y rfl (y_ext0 rfl) ?_
    refine RL.y rfl (y_ext1 rfl) ?_
    refine RL.alloc rfl ze25 (fun w5 hV5 hX5 => ?_)
    have hsz5 := hX5.size
    replace ho1x1 := ho1x1.ext hX5
    replace ho4x1 := ho4x1.ext hX5
    replace hV3 := hV3.ext hX5
    have hE5 := hE4.trans hX5
    have hlt5 := hV5.lt
    refine RL.stores ag25 (hV5) rfl rfl rfl rfl (ho4x1.one) (fun w6 hV6 hg6 => ?_)
    have hM6 := grown_mod (B := w4.heap.size) (U := w4.heap.size + 1) hg6 (fun k e => by simp only [Option.some.injEq] at e; omega)
    have hsz6 := hM6.size
    replace ho1x1 := ho1x1.mod hM6 (by omega)
    replace ho4x1 := ho4x1.mod hM6 (by omega)
    replace hV3 := hV3.mod hM6 (by omega)
    have hE6 := Ext.then_mod hE5 hM6 (by omega)
    refine RL.y rfl (y_asg (v := .int _ _) rfl) ?_
    refine RL.nil ?_
    refine Fin.next ?_
    refine CW.seq ?_
    refine CW.seq ?_
    refine CW.region ?_
    refine RL.y rfl (y_loads ag25 rfl (eqw (hV6)) rfl) ?_
    refine RL.y rfl (y_loads ag25 rfl (eqw (hV3)) rfl) ?_
    refine RL.call rfl (eqBuilding_any ho4x1.rd ho1x1.rd) ?_
    rintro r w7 ⟨rfl, hX7⟩
    have hsz7 := hX7.size
    replace ho1x1 := ho1x1.ext hX7
    replace ho4x1 := ho4x1.ext hX7
    replace hV3 := hV3.ext hX7
    replace hV6 := hV6.ext hX7
    have hE7 := hE6.trans hX7
    refine RL.y rfl (y_not rfl) ?_
    refine RL.y rfl (y_mov (v := .bool _) rfl) ?_
    refine RL.force (t := 28) false rfl rfl (by first | (simp; done) | exact decide_eq_false (by omega) | (simp [*]; done) | assumption) ?_
    refine RL.take (t := 28) rfl rfl rfl ?_
    refine RL.y rfl (y_mov (v := .int _ _) rfl) ?_
    refine RL.take (t := 28) rfl rfl rfl ?_
    refine RL.y rfl (y_mov (v := .int _ _) rfl) ?_
    refine RL.take (t := 28) rfl rfl rfl ?_
    refine RL.y rfl (y_ne rfl rfl) ?_
    refine RL.y rfl (y_pickF (v := .bool _) rfl rfl) ?_
    refine RL.nil ?_
    refine Fin.next ?_
    refine CW.condF rfl (by first | (simp; done) | exact decide_eq_false (by omega) | (simp [*]; done) | assumption) ?_
    refine CW.skip ?_
    refine Fin.next ?_
    refine CW.seq ?_
    refine CW.region ?_
    refine RL.y rfl (y_asg rfl) ?_
    refine RL.nil ?_
    refine Fin.next ?_
    refine CW.seq ?_
    refine CW.region ?_
    refine RL.y rfl (y_loads ag25 rfl (eqw (hV6)) rfl) ?_
    refine RL.y rfl (y_mov (v := .int _ _) rfl) ?_
    refine RL.call rfl (markB_own ho4x1 (by omega) (by omega)) ?_
    rintro r w8 ⟨xs8, k8, rfl, ho8, hh8, hk8, hl8, hM8⟩
    have hsz8 := hM8.size
    replace ho1x1 := ho1x1.mod hM8 (by omega)
    replace hV3 := hV3.mod hM8 (by omega)
    replace hV6 := hV6.mod hM8 (by omega)
    have hE8 := Ext.then_mod hE7 hM8 (by omega)
    clear ho4x1
    refine RL.y rfl (y_asg (v := .int _ _) rfl) ?_
    refine RL.nil ?_
    refine Fin.next ?_
    refine CW.seq ?_
    refine CW.region ?_
    refine RL.y rfl (y_asg rfl) ?_
    refine RL.nil ?_
    refine Fin.next ?_
    refine CW.seq ?_
    refine CW.region ?_
    refine RL.y rfl (y_loads ag25 rfl (eqw (hV6)) rfl) ?_
    refine RL.y rfl (y_mov (v := .int _ _) rfl) ?_
    refine RL.call rfl (heldBuilding_any ho8.rd (by omega) (by omega)) ?_
    rintro r w9 ⟨rfl, hX9⟩
    have hsz9 := hX9.size
    replace ho1x1 := ho1x1.ext hX9
    replace ho8 := ho8.ext hX9
    replace hV3 := hV3.ext hX9
    replace hV6 := hV6.ext hX9
    have hE9 := hE8.trans hX9
    refine RL.y rfl (y_asg (v := .int _ _) rfl) ?_
    refine RL.nil ?_
    refine Fin.next ?_
    refine CW.seq ?_
    refine CW.seq ?_
    refine CW.region ?_
    refine RL.y rfl (y_mov (v := .int _ _) rfl) ?_
    refine RL.y rfl (y_lt rfl rfl) ?_
    refine RL.nil ?_
    refine Fin.next ?_
    refine CW.condF rfl (by first | (simp; done) | exact decide_eq_false (by omega) | (simp [*]; done) | assumption) ?_
    refine CW.skip ?_
    refine Fin.next ?_
    refine CW.seq ?_
    refine CW.seq ?_
    refine CW.region ?_
    refine RL.y rfl (y_mov (v := .int _ _) rfl) ?_
    refine RL.y rfl (y_mov (v := .int _ _) rfl) ?_
    refine RL.y rfl (y_ne rfl rfl) ?_
    refine RL.nil ?_
    refine Fin.next ?_
    refine CW.condF rfl (by first | (simp; done) | exact decide_eq_false (by omega) | (simp [*]; done) | assumption) ?_
    refine CW.skip ?_
    refine Fin.next ?_
    refine CW.seq ?_
    refine CW.region ?_
    refine RL.y rfl (y_mov (v := .string _) rfl) ?_
    refine RL.call rfl (implReadBuilding_any (hf.ext hE9) (by omega)) ?_
    rintro r w10 ⟨v110, rfl, ho10x1, hX10⟩
    have hsz10 := hX10.size
    replace ho1x1 := ho1x1.ext hX10
    replace ho8 := ho8.ext hX10
    replace hV3 := hV3.ext hX10
    replace hV6 := hV6.ext hX10
    have hE10 := hE9.trans hX10
    replace ho10x1 := OwB.of ho10x1
    obtain ⟨vp10x, vd10x, rfl, _⟩ := id ho10x1
    refine RL.y rfl (y_mov (by conv => lhs; whnf)) ?_
    refine RL.y rfl (y_ext0 rfl) ?_
    refine RL.y rfl (y_ext1 rfl) ?_
    refine RL.alloc rfl ze25 (fun w11 hV11 hX11 => ?_)
    have hsz11 := hX11.size
    replace ho1x1 := ho1x1.ext hX11
    replace ho8 := ho8.ext hX11
    replace ho10x1 := ho10x1.ext hX11
    replace hV3 := hV3.ext hX11
    replace hV6 := hV6.ext hX11
    have hE11 := hE10.trans hX11
    have hlt11 := hV11.lt
    refine RL.stores ag25 (hV11) rfl rfl rfl rfl (ho10x1.one) (fun w12 hV12 hg12 => ?_)
    have hM12 := grown_mod (B := w10.heap.size) (U := w10.heap.size + 1) hg12 (fun k e => by simp only [Option.some.injEq] at e; omega)
    have hsz12 := hM12.size
    replace ho1x1 := ho1x1.mod hM12 (by omega)
    replace ho8 := ho8.mod hM12 (by omega)
    replace ho10x1 := ho10x1.mod hM12 (by omega)
    replace hV3 := hV3.mod hM12 (by omega)
    replace hV6 := hV6.mod hM12 (by omega)
    have hE12 := Ext.then_mod hE11 hM12 (by omega)
    refine RL.y rfl (y_asg (v := .int _ _) rfl) ?_
    refine RL.nil ?_
    refine Fin.next ?_
    refine CW.seq ?_
    refine CW.seq ?_
    refine CW.region ?_
    refine RL.y rfl (y_loads ag25 rfl (eqw (hV12)) rfl) ?_
    refine RL.y rfl (y_loads ag25 rfl (eqw (hV3)) rfl) ?_
    refine RL.call rfl (eqBuilding_any ho10x1.rd ho1x1.rd) ?_
    rintro r w13 ⟨rfl, hX13⟩
    have hsz13 := hX13.size
    replace ho1x1 := ho1x1.ext hX13
    replace ho8 := ho8.ext hX13
    replace ho10x1 := ho10x1.ext hX13
    replace hV3 := hV3.ext hX13
    replace hV6 := hV6.ext hX13
    replace hV12 := hV12.ext hX13
    have hE13 := hE12.trans hX13
    refine RL.y rfl (y_not rfl) ?_
    refine RL.y rfl (y_mov (v := .bool _) rfl) ?_
    refine RL.force (t := 53) false rfl rfl (by first | (simp; done) | exact decide_eq_false (by omega) | (simp [*]; done) | assumption) ?_
    refine RL.take (t := 53) rfl rfl rfl ?_
    refine RL.y rfl (y_mov (v := .int _ _) rfl) ?_
    refine RL.take (t := 53) rfl rfl rfl ?_
    refine RL.y rfl (y_mov (v := .int _ _) rfl) ?_
    refine RL.take (t := 53) rfl rfl rfl ?_
    refine RL.y rfl (y_ne rfl rfl) ?_
    refine RL.y rfl (y_pickF (v := .bool _) rfl rfl) ?_
    refine RL.nil ?_
    refine Fin.next ?_
    refine CW.condF rfl (by first | (simp; done) | exact decide_eq_false (by omega) | (simp [*]; done) | assumption) ?_
    refine CW.skip ?_
    refine Fin.next ?_
    refine CW.seq ?_
    refine CW.region ?_
    refine RL.y rfl (y_asg rfl) ?_
    refine RL.nil ?_
    refine Fin.next ?_
    refine CW.seq ?_
    refine CW.region ?_
    refine RL.y rfl (y_loads ag25 rfl (eqw (hV6)) rfl) ?_
    refine RL.y rfl (y_mov (v := .int _ _) rfl) ?_
    refine RL.call rfl (heldBuilding_any ho8.rd (by omega) (by omega)) ?_
    rintro r w14 ⟨rfl, hX14⟩
    have hsz14 := hX14.size
    replace ho1x1 := ho1x1.ext hX14
    replace ho8 := ho8.ext hX14
    replace ho10x1 := ho10x1.ext hX14
    replace hV3 := hV3.ext hX14
    replace hV6 := hV6.ext hX14
    replace hV12 := hV12.ext hX14
    have hE14 := hE13.trans hX14
    refine RL.y rfl (y_asg (v := .int _ _) rfl) ?_
    refine RL.nil ?_
    refine Fin.next ?_
    refine CW.seq ?_
    refine CW.seq ?_
    refine CW.region ?_
    refine RL.y rfl (y_mov (v := .int _ _) rfl) ?_
    refine RL.y rfl (y_lt rfl rfl) ?_
    refine RL.nil ?_
    refine Fin.next ?_
    refine CW.condF rfl (by first | (simp; done) | exact decide_eq_false (by omega) | (simp [*]; done) | assumption) ?_
    refine CW.skip ?_
    refine Fin.next ?_
    refine CW.seq ?_
    refine CW.seq ?_
    refine CW.region ?_
    refine RL.y rfl (y_mov (v := .int _ _) rfl) ?_
    refine RL.y rfl (y_mov (v := .int _ _) rfl) ?_
    refine RL.y rfl (y_ne rfl rfl) ?_
    refine RL.nil ?_
    refine Fin.next ?_
    refine CW.condF rfl (by first | (simp; done) | exact decide_eq_false (by omega) | (simp [*]; done) | assumption) ?_
    refine CW.skip ?_
    refine Fin.next ?_
    refine CW.seq ?_
    refine CW.region ?_
    refine RL.y rfl (y_asg rfl) ?_
    refine RL.nil ?_
    refine Fin.next ?_
    refine CW.ret ?_
    refine Fin.ret1 rfl (by conv => lhs; whnf) ?_
    exact ⟨_, rfl, rfl, hE14⟩
/-- What the condition gives the walk. -/
theorem fnExactReadBuilding.of_laid {W : World} (h : laidMetH Tryd.prog Rows.fnExactReadBuildingRow.laid W) (hsh : W.ShapedOpen Tryd.prog) : Lf W := by
  rw [MakeChecks.laidMetH_plain _ _ _ (by kernel_rfl)] at h
  obtain ⟨ps, ⟨g0, t0, cs0, f0, p0, q0, hg0, ht0, hv0, hd0, ⟨g1, t1, cs1, f1, p1, q1, hg1, ht1, hv1, hd1, ⟨g2, t2, cs2, f2, p2, q2, hg2, ht2, hv2, hd2, ⟨g3, t3, cs3, f3, p3, q3, hg3, ht3, hv3, hd3, ⟨g4, t4, cs4, f4, p4, q4, hg4, ht4, hv4, hd4, ⟨g5, t5, cs5, f5, p5, q5, hg5, ht5, hv5, hd5, ⟨g6, t6, cs6, f6, p6, q6, hg6, ht6, hv6, hd6, _, _⟩, _⟩, _⟩, _⟩, _⟩, _⟩, _⟩, _, _⟩ := h
  have ht : Tb W := by
    have hd : DataW.trod _ Tryd.prog W 0 _ false f2 t2 cs2.toList = some (Lib.tabData .u64 Lib.pow10Tab, _) := hd2
    have hgt : Tryd.prog.globalNamed pw10 = some g2 := hg2
    obtain rfl : g2 = 3 := Option.some.inj (hgt.symm.trans (by kernel_rfl))
    obtain rfl : t2 = 112 := Option.some.inj (ht2.symm.trans (by kernel_rfl))
    show World.var? Tryd.prog W pw10 = _
    rw [show World.var? Tryd.prog W pw10 = some cs2 from hv2, ← Lib.cells_of_tab Tryd.underlying112 (by exact Tryd.underlying89) (by kernel_rfl) (by kernel_rfl) hd]
  have hv4' : ∃ tp p, World.var? Tryd.prog W "strconv.ErrRange" = some #[.iface tp p] := by
    have hgt : Tryd.prog.globalNamed "strconv.ErrRange" = some g4 := hg4
    obtain rfl : g4 = 2 := Option.some.inj (hgt.symm.trans (by kernel_rfl))
    obtain rfl : t4 = 65 := Option.some.inj (ht4.symm.trans (by kernel_rfl))
    obtain ⟨_, u, v, hc, _, _⟩ := iface_of_trod Tryd.underlying65 hd4
    have hcs : cs4 = #[.iface u v] := Array.toList_inj.1 hc
    subst hcs
    exact ⟨u, v, hv4⟩
  have hv5' : ∃ tp p, World.var? Tryd.prog W "strconv.ErrSyntax" = some #[.iface tp p] := by
    have hgt : Tryd.prog.globalNamed "strconv.ErrSyntax" = some g5 := hg5
    obtain rfl : g5 = 1 := Option.some.inj (hgt.symm.trans (by kernel_rfl))
    obtain rfl : t5 = 65 := Option.some.inj (ht5.symm.trans (by kernel_rfl))
    obtain ⟨_, u, v, hc, _, _⟩ := iface_of_trod Tryd.underlying65 hd5
    have hcs : cs5 = #[.iface u v] := Array.toList_inj.1 hc
    subst hcs
    exact ⟨u, v, hv5⟩
  exact ⟨ht, hv5', hv4', Tryd.laysM146.s1_3 W hsh⟩
namespace fnExactReadBuilding
open Go.ChangeShapes Go.WideShapes Go.ChangeAt Go.RowKit
set_option linter.unusedVariables false
theorem own : ownKnob Tryd.prog.godebug = none := by kernel_rfl
theorem laidOut : laidOutB Tryd.prog = true := by kernel_rfl
set_option maxRecDepth 100000 in
theorem lifted (os : Os) (started : os.Started) (H : Type) (enc : TypeId × Value → H) :
    ReturnsInHanded {} Tryd.checked os 3 .any (fun w args => (Rows.fnExactReadBuildingSpec.pre enc Tryd.prog Tryd.f3 [] false w args ∧ laidMetH Tryd.prog Rows.fnExactReadBuildingRow.laid w) ∧ sizedMet enc Tryd.prog Tryd.f3 (OpenSpec.ofChange Rows.fnExactReadBuildingSpec) false w args)
      (Rows.fnExactReadBuildingSpec.post enc Tryd.prog Tryd.f3 false true false false) := by
  refine handed_and_shaped (C := Tryd.checked) (X := fun w _ => laidMetH Tryd.prog Rows.fnExactReadBuildingRow.laid w) (fun _ _ _ hh h => h.of_heap hh) own started (by kernel_rfl) Tryd.func3
    (ChangeSpec.witness_shaped (enc := enc) (C := Tryd.checked) (os := os) (X := fun w _ => laidMetH Tryd.prog Rows.fnExactReadBuildingRow.laid w) false (World.laidAll Tryd.prog os Rows.fnExactReadBuildingRow.laid) #[.string ⟨#[]⟩] 8 (World.laidAll_os _ _ _) (World.shaped_of_ZipB (by kernel_rfl) (by kernel_rfl)) (by kernel_rfl) (by kernel_rfl) (by kernel_rfl)
      (by rw [MakeChecks.laidMetH_plain _ _ _ (by kernel_rfl)]; exact laidMet_laidAll _ (by kernel_rfl) (by kernel_rfl))) ?_
  intro W base args ds gs before hval0 hW _ _ hL hsh _
  have hfacts := of_laid hL hsh
  have hval : ∀ (j : Nat) t v, Tryd.f3.params[j]? = some t → args[j]? = some v → Value.okWide Tryd.prog W .any base t v := hval0
  have hW' := hW
  obtain ⟨p, q, hA0, hV, rfl, hfz, hnd⟩ := hW
  have hA : DataW.TrodAll enc Tryd.prog W 0 (fun _ => true) true Tryd.f3.params.toList args.toList ds p := hA0
  rw [Tryd.params3] at hA hval
  have hkeep := hA
  obtain ⟨v0, vs0, d0, ds0, p0, q0, hargs, rfl, rfl, h0, r0⟩ := trodAll_cons hA
  obtain ⟨rfl, rfl, rfl⟩ := trodAll_nil r0
  obtain rfl : args = #[v0] := by cases args; simp_all
  obtain ⟨rfl, rfl⟩ := trodVars_none hV
  obtain ⟨b0, rfl, rfl, rfl, w00⟩ := Go.ChangeMaps.open_string Tryd.underlying9 (hval 0 9 v0 rfl rfl) h0
  obtain ⟨s0, rfl⟩ := bytes_list b0
  have w0 : s0.length ≤ maxLen := w00
  refine (lawReadBuilding W hfacts s0 w0).calls.mono fun e W' ⟨r, he, hr, hg⟩ => ?_
  subst hr
  subst he
  exact ⟨_, rfl, _, _, _, [] ++ [], _, [], hW', trodAll_cons_mk (shut_bool Tryd.underlying4 _) trodAll_mk0, trodAll_ext laidOut (by kernel_rfl) hkeep hg (fun x hx => hW'.lt x (List.mem_append_left _ hx)), rfl, hg.frame _, fun h => by cases h⟩
theorem over : Rows.fnExactReadBuildingRow.holds Tryd.pinned (OpenSpec.ofChange Rows.fnExactReadBuildingSpec) :=
  OpenClaim.holds_of_wide 3 Tryd.f3 rfl rfl rfl rfl rfl rfl rfl ⟨rfl, rfl, rfl, rfl, rfl⟩ rfl rfl rfl rfl rfl (by kernel_rfl) Tryd.func3 (by kernel_rfl)
    (of_decide_eq_true (by kernel_rfl)) (by unfold Func.isWrapper; first | (rw [if_pos (by decide +kernel)]; kernel_rfl) | (rw [if_neg (by decide +kernel)]; exact ⟨rfl, rfl⟩))
    (fun os started H enc _ => lifted os started H enc)
theorem carded : Rows.FnExactReadBuildingCardSaid :=
  Claim7.holds_tied_plain_at .later [] Rows.fnExactReadBuildingCard.laidKinds true Rows.fnExactReadBuildingCard.stood.harness true
    over (fun _ h => by cases h) (by kernel_rfl) (fun _ h => by cases h) fnExactReadBuilding_row_tie rfl ⟨rfl, rfl⟩ (by kernel_rfl) rfl
    (fun f fn hf hfn => by
      obtain rfl : f = 3 := Option.some.inj ((show Tryd.prog.funcNamed Rows.fnExactReadBuildingRow.func = some 3 by kernel_rfl).symm.trans hf) |>.symm
      obtain rfl : fn = Tryd.f3 := (Option.some.inj (Tryd.func3.symm.trans hfn)).symm
      exact ⟨by kernel_rfl, fun j t ht => by
        rw [Tryd.params3] at ht
        have hm : t ∈ [9] := by simpa using Array.mem_of_getElem? ht
        have hall : ([9].all fun u => !Tryd.prog.wantsStandIn u) = true := by kernel_rfl
        exact (show Tryd.prog.wantsStandIn t = false by simpa using List.all_eq_true.1 hall t hm)⟩)
    (by kernel_rfl)
theorem proved : Rows.FnExactReadBuildingCardSaid := carded
end fnExactReadBuilding
#print axioms fnExactReadBuilding.proved
end Go.Proofs.YtebegkegkdmbjaaDoor
