/-
  Drawn arguments of the functions on buildings.
-/
import Derived.Test.YtebegkegkdmbjaaFDrawB
namespace Go.Proofs.Ytebegkegkdmbjaa
open B Go.RowKit

theorem DrawDoorsOf_any {w : World} {v : Value} {l : List UInt8} (hv : SV w v (byts l)) :
    Does Try.prog 37 #[v] w (fun v' w' => ∃ ps ds, RuB w' w.heap.size w'.heap.size v' ps ds ∧ ps.length ≤ 30 ∧ Ext w w') := by
  refine enter Try.func37 rfl 6 Try.ntmps37 rfl (by kernel_rfl) ?_
  refine CW.seq ?_
  refine CW.region ?_
  refine RL.alloc rfl ze28 (fun w1 hV1 hE1 => ?_)
  have hc1 := hV1.lt
  refine RL.nil ?_
  refine Fin.next ?_
  refine CW.seq ?_
  refine CW.region ?_
  refine RL.y rfl (y_mov (by conv => lhs; whnf)) ?_
  refine RL.call rfl (l01From_any (hv.ext hE1)) ?_
  rintro r w2 ⟨rfl, hS2, hE2⟩
  refine RL.call rfl (l09Draw_any hS2) ?_
  rintro v1 w3 ⟨ps, ds, hR3, hl, hD3⟩
  obtain ⟨vp, vd, rfl, _⟩ := id hR3
  have hV3 := (hV1.ext hE2).drawn hD3 (by omega)
  have hE3 := hD3.own (hE1.trans hE2) hE1.size
  have hs2 := hS2.lt
  have hs3 := hD3.size
  refine RL.stores ag28 (hV3) rfl rfl rfl rfl (hR3.one) (fun w4 hV4 hg4 => ?_)
  replace hV4 : VR w4 w.heap.size [vp, vd] := hV4
  have hs4 := hg4.size
  have hM4 : Mod w.heap.size (w.heap.size + 1) w3 w4 := grown_mod hg4 (fun k hk => by simp only [Option.some.injEq] at hk; omega)
  refine RL.nil ?_
  refine Fin.next ?_
  refine CW.ret ?_
  refine Fin.retc rfl ag28 rfl rfl (hV4) ?_
  exact ⟨_, rfl, ps, ds, (hR3.mod hM4 (by omega)).wide (by omega) hs4 (Nat.le_refl _), hl, hE3.then_mod hM4 (Nat.le_refl _)⟩

theorem DrawDoorsUnder_any {w : World} {v : Value} {l : List UInt8} (hv : SV w v (byts l)) :
    Does Try.prog 32 #[v] w (fun r w' => ∃ v1 ps ds x, r = .tuple #[v1, .int .i64 x] ∧ RuB w' w.heap.size w'.heap.size v1 ps ds ∧ ps.length ≤ 30 ∧ Ext w w') := by
  refine enter Try.func32 rfl 14 Try.ntmps32 rfl (by kernel_rfl) ?_
  refine CW.seq ?_
  refine CW.region ?_
  refine RL.alloc rfl ze28 (fun w1 hV1 hE1 => ?_)
  have hc1 := hV1.lt
  refine RL.y rfl (y_asg rfl) ?_
  refine RL.nil ?_
  refine Fin.next ?_
  refine CW.seq ?_
  refine CW.region ?_
  refine RL.y rfl (y_mov (by conv => lhs; whnf)) ?_
  refine RL.call rfl (l01From_any (hv.ext hE1)) ?_
  rintro r w2 ⟨rfl, hS2, hE2⟩
  refine RL.y rfl (y_asg (by conv => lhs; whnf)) ?_
  refine RL.nil ?_
  refine Fin.next ?_
  refine CW.seq ?_
  refine CW.region ?_
  refine RL.y rfl (y_mov (by conv => lhs; whnf)) ?_
  refine RL.call rfl (l09Draw_any hS2) ?_
  rintro v1 w3 ⟨ps, ds, hR3, hl, hD3⟩
  obtain ⟨vp, vd, rfl, _⟩ := id hR3
  have hV3 := (hV1.ext hE2).drawn hD3 (by omega)
  have hE3 := hD3.own (hE1.trans hE2) hE1.size
  have hs2 := hS2.lt
  have hs3 := hD3.size
  refine RL.alloc rfl ze28 (fun w4 hW4 hE4 => ?_)
  refine RL.stores ag28 (hW4) rfl rfl rfl rfl (hR3.one) (fun w5 hW5 hg5 => ?_)
  replace hW5 : VR w5 w3.heap.size [vp, vd] := hW5
  have hE35 : Ext w3 w5 := hE4.grown hg5 (fun b hb => by simp only [Option.some.injEq] at hb; omega)
  have hs5 := hE35.size
  have hV5 := hV3.ext hE35
  have hR5 := hR3.ext hE35
  have hX5 : Drawn w5 w1.heap.size w5.drew := (Drawn.refl (hD3.1.ext hE35)).ext (Ext.drew _)
  refine RL.nil ?_
  refine Fin.next ?_
  refine CW.seq ?_
  refine CW.any (Drawn w5 w1.heap.size) [3, 4, 5] mixed rfl (hX5) ?_
  refine AL.y 0 rfl rfl (by kernel_rfl) (by kernel_rfl) (by kernel_rfl) rfl (y_loads ag28 rfl (fun _ hC => (hW5).drawn hC (by omega)) rfl) ?_
  refine AL.y 1 rfl rfl (by kernel_rfl) (by kernel_rfl) (by kernel_rfl) rfl (y_mov (by conv => lhs; whnf)) ?_
  refine AL.y 2 rfl rfl (by kernel_rfl) (by kernel_rfl) (by kernel_rfl) rfl (y_loads ag28 rfl (fun _ hC => (hW5).drawn hC (by omega)) rfl) ?_
  refine AL.one (i := 3) (by kernel_rfl) rfl rfl ?_ 
  intro hr hJ
  refine RL.call rfl (l09DrawNode_any hX5.1 (hR5.ext (Ext.drew _)).rd hl) ?_
  rintro r w6 ⟨x, rfl, hD6⟩
  have hX6 := hX5.trans hD6
  refine RL.nil ?_
  refine Fin.al hr hJ (.inr hX6) ?_
  refine AL.one (i := 4) (by kernel_rfl) rfl rfl ?_ 
  intro hr hJ
  refine RL.stores ag28 ((hV5.drawn hX6 (by omega))) rfl rfl rfl rfl (hR3.one) (fun w7 hV7 hg7 => ?_)
  replace hV7 : VR w7 w.heap.size [vp, vd] := hV7
  have hs7 := hg7.size
  have hs6 := hX6.size
  have hM7 : Mod w.heap.size (w.heap.size + 1) w6 w7 := grown_mod hg7 (fun k hk => by simp only [Option.some.injEq] at hk; omega)
  have hR7 := (hR5.mod hX6.2 (by omega)).mod hM7 (by omega)
  have hE7 : Ext w w7 := (hX6.own (hE3.trans hE35) (by omega)).then_mod hM7 (Nat.le_refl _)
  refine RL.nil ?_
  refine Fin.al hr hJ (by first | exact .inl (by kernel_rfl) | (refine .inr ?_; assumption)) ?_
  refine AL.one (i := 5) (by kernel_rfl) rfl rfl ?_ 
  intro hr hJ
  refine RL.y rfl (y_asg (v := .int _ _) rfl) ?_
  refine RL.nil ?_
  refine Fin.al hr hJ (by first | exact .inl (by kernel_rfl) | (refine .inr ?_; assumption)) ?_
  refine AL.nil (by kernel_rfl) ?_
  refine Fin.next ?_
  refine CW.ret ?_
  refine Fin.retct rfl ag28 rfl rfl (hV7) (by conv => lhs; whnf) ?_
  exact ⟨_, rfl, _, ps, ds, x, rfl, hR7.wide (by omega) (by omega) (Nat.le_refl _), hl, hE7⟩

theorem DrawAncestorsOf_any {w : World} {v : Value} {l : List UInt8} (hv : SV w v (byts l)) :
    Does Try.prog 33 #[v] w (fun r w' => ∃ v1 ps ds x, r = .tuple #[v1, .int .i64 x] ∧ RuB w' w.heap.size w'.heap.size v1 ps ds ∧ ps.length ≤ 30 ∧ Ext w w') := by
  refine enter Try.func33 rfl 8 Try.ntmps33 rfl (by kernel_rfl) ?_
  refine CW.seq ?_
  refine CW.region ?_
  refine RL.alloc rfl ze28 (fun w1 hV1 hE1 => ?_)
  have hc1 := hV1.lt
  refine RL.y rfl (y_asg rfl) ?_
  refine RL.nil ?_
  refine Fin.next ?_
  refine CW.seq ?_
  refine CW.region ?_
  refine RL.y rfl (y_mov (by conv => lhs; whnf)) ?_
  refine RL.call rfl (DrawDoorsUnder_any (hv.ext hE1)) ?_
  rintro r w3 ⟨v1, ps, ds, x, rfl, hR3, hl, hE3⟩
  obtain ⟨vp, vd, rfl, _⟩ := id hR3
  have hV3 := hV1.ext hE3
  have hs3 := hE3.size
  refine RL.y rfl (y_ext0 rfl) ?_
  refine RL.y rfl (y_ext1 rfl) ?_
  refine RL.stores ag28 (hV3) rfl rfl rfl rfl (hR3.one) (fun w4 hV4 hg4 => ?_)
  replace hV4 : VR w4 w.heap.size [vp, vd] := hV4
  have hs4 := hg4.size
  have hM4 : Mod w.heap.size (w.heap.size + 1) w3 w4 := grown_mod hg4 (fun k hk => by simp only [Option.some.injEq] at hk; omega)
  refine RL.y rfl (y_asg (v := .int _ _) rfl) ?_
  refine RL.nil ?_
  refine Fin.next ?_
  refine CW.ret ?_
  refine Fin.retct rfl ag28 rfl rfl (hV4) (by conv => lhs; whnf) ?_
  exact ⟨_, rfl, _, ps, ds, x, rfl, (hR3.mod hM4 (by omega)).wide (by omega) hs4 (Nat.le_refl _), hl, (hE1.trans hE3).then_mod hM4 (Nat.le_refl _)⟩

theorem DrawCommonGroup_any {w : World} {v : Value} {l : List UInt8} (hv : SV w v (byts l)) :
    Does Try.prog 36 #[v] w (fun r w' => ∃ v1 v2 ps ds ns, r = .tuple #[v1, v2] ∧ RuB w' w.heap.size w'.heap.size v1 ps ds ∧ OV w' w.heap.size 2 v2 (ints ns) ∧ ps.length ≤ 30 ∧ ns.length ≤ 30 ∧ Ext w w') := by
  refine enter Try.func36 rfl 34 Try.ntmps36 rfl (by kernel_rfl) ?_
  refine CW.seq ?_
  refine CW.region ?_
  refine RL.alloc rfl ze28 (fun w1 hV1 hE1 => ?_)
  have hc1 := hV1.lt
  refine RL.y rfl (y_asg rfl) ?_
  refine RL.nil ?_
  refine Fin.next ?_
  refine CW.seq ?_
  refine CW.region ?_
  refine RL.y rfl (y_mov (by conv => lhs; whnf)) ?_
  refine RL.call rfl (l01From_any (hv.ext hE1)) ?_
  rintro r w2 ⟨rfl, hS2, hE2⟩
  refine RL.y rfl (y_asg (by conv => lhs; whnf)) ?_
  refine RL.nil ?_
  refine Fin.next ?_
  refine CW.seq ?_
  refine CW.region ?_
  refine RL.y rfl (y_mov (by conv => lhs; whnf)) ?_
  refine RL.call rfl (l09Draw_any hS2) ?_
  rintro v1 w3 ⟨ps, ds, hR3, hl, hD3⟩
  obtain ⟨vp, vd, rfl, _⟩ := id hR3
  have hV3 := (hV1.ext hE2).drawn hD3 (by omega)
  have hE3 := hD3.own (hE1.trans hE2) hE1.size
  have hs2 := hS2.lt
  have hs3 := hD3.size
  refine RL.alloc rfl ze28 (fun w4 hW4 hE4 => ?_)
  refine RL.stores ag28 (hW4) rfl rfl rfl rfl (hR3.one) (fun w5 hW5 hg5 => ?_)
  replace hW5 : VR w5 w3.heap.size [vp, vd] := hW5
  have hE35 : Ext w3 w5 := hE4.grown hg5 (fun b hb => by simp only [Option.some.injEq] at hb; omega)
  have hs5 := hE35.size
  have hV5 := hV3.ext hE35
  have hR5 := hR3.ext hE35
  have hX5 : Drawn w5 w1.heap.size w5 := Drawn.refl (hD3.1.ext hE35)
  have hbw5 : w1.heap.size < w5.heap.size := by omega
  refine RL.nil ?_
  refine Fin.next ?_
  refine CW.seq ?_
  refine CW.region ?_
  refine RL.lit0 rfl sT22 (fun vo w6 ho6 hE6 hb6 => ?_)
  have hX6 := hX5.ext hE6
  refine RL.y rfl (y_asg (by conv => lhs; whnf)) ?_
  refine RL.nil ?_
  refine Fin.next ?_
  refine CW.seq ?_
  refine CW.seq ?_
  refine CW.region ?_
  refine RL.y rfl (y_mov (by conv => lhs; whnf)) ?_
  refine RL.call rfl (l01Next_any hX6.1 (by omega)) ?_
  rintro r w7 ⟨n, rfl, ⟨hn0, hn1, -⟩, hD7⟩
  replace hn1 := hn1 (by omega)
  obtain ⟨nn, rfl⟩ : ∃ k : Nat, n = (k : Int) := ⟨n.toNat, by omega⟩
  refine RL.y rfl (y_asg (v := .int _ _) rfl) ?_
  refine RL.nil ?_
  refine Fin.next ?_
  refine CW.block ?_
  refine CW.loop (fun m E w' => ∃ (k : Nat) (vo : Value) (ns : List Int), k = m ∧ agrees E [(2, .pointer (some ⟨w.heap.size, 0, none⟩)), (4, .pointer (some ⟨w1.heap.size, 0, none⟩)), (5, .pointer (some ⟨w3.heap.size, 0, none⟩)), (6, vo), (7, .int .i64 (k : Int))] ∧ OV w' w5.heap.size 2 vo (ints ns) ∧ ns.length + k ≤ 4 ∧ Drawn w5 w1.heap.size w') _ (⟨nn, vo, [], rfl, ⟨rfl, rfl, rfl, rfl, rfl, trivial⟩, ho6.drawn hD7 hbw5, by simp; omega, hX6.trans hD7⟩) ?_
  · rintro m E w8 ⟨k, vo, ns, rfl, hag, ho8, hnl, hX8⟩
    refine CW.re _ hag rfl ?_
    refine CW.seq ?_
    refine CW.seq ?_
    refine CW.region ?_
    refine RL.y rfl (y_mov (v := .int _ _) rfl) ?_
    refine RL.y rfl (y_gt rfl rfl) ?_
    refine RL.nil ?_
    refine Fin.next ?_
    refine CW.cond rfl rfl (fun hc1 => ?_) (fun hc1 => ?_)
    · with_reducible first | (replace hc1 := deNF hc1) | (replace hc1 := of_decide_eq_true hc1) | (replace hc1 := of_decide_eq_false hc1) | (replace hc1 := deNT hc1) | (replace hc1 := deNN hc1) | (replace hc1 := bnT hc1) | (replace hc1 := bnF hc1) | skip
      refine CW.skip ?_
      refine Fin.next ?_
      refine CW.seq ?_
      refine CW.block ?_
      refine CW.region ?_
      refine RL.y rfl (y_mov (by conv => lhs; whnf)) ?_
      refine RL.y rfl (y_mov (by conv => lhs; whnf)) ?_
      refine RL.y rfl (y_loads ag28 rfl (eqw (hW5.drawn hX8 (by omega))) rfl) ?_
      refine RL.call rfl (l09DrawNode_any hX8.1 (hR5.mod hX8.2 (by omega)).rd hl) ?_
      rintro r w9 ⟨x, rfl, hD9⟩
      refine RL.app1i rfl rfl sT22 (by omega) (ho8.drawn hD9 hbw5) (by omega) (hX8.trans hD9).size rfl (fun _ => rfl) (fun u v10 w10 ho10 hg10 hn10 => ?_)
      refine RL.y rfl (y_asg (by conv => lhs; whnf)) ?_
      refine RL.nil ?_
      refine Fin.blockNormal ?_
      refine Fin.next ?_
      refine CW.region ?_
      refine RL.y rfl (y_mov (v := .int _ _) rfl) ?_
      refine RL.y rfl (y_sub rfl rfl (IntWalk.i64_in _ (by omega))) ?_
      refine RL.y rfl (y_asg (v := .int _ _) rfl) ?_
      refine RL.nil ?_
      refine Fin.le ?_
      exact ⟨k - 1, by omega, k - 1, v10, ns ++ [x], rfl, ⟨rfl, rfl, rfl, rfl, by rw [show ((k - 1 : Nat) : Int) = (k : Int) - 1 from by omega]; rfl, trivial⟩, ho10, by simp; omega, (hX8.trans hD9).grown hbw5 hg10 (fun b hb => (ho8.lt b hb).1)⟩
    · with_reducible first | (replace hc1 := deNF hc1) | (replace hc1 := of_decide_eq_true hc1) | (replace hc1 := of_decide_eq_false hc1) | (replace hc1 := deNT hc1) | (replace hc1 := deNN hc1) | (replace hc1 := bnT hc1) | (replace hc1 := bnF hc1) | skip
      refine CW.exit ?_
      refine Fin.thenExit ?_
      refine Fin.thenExit ?_
      refine Fin.blockHit ?_
      refine Fin.next ?_
      refine CW.seq ?_
      refine CW.seq ?_
      refine CW.region ?_
      refine RL.y rfl (y_mov (by conv => lhs; whnf)) ?_
      refine RL.call rfl (l01Next_any hX8.1 (by omega)) ?_
      rintro r w9 ⟨y, rfl, -, hD9⟩
      have hX9 := hX8.trans hD9
      refine RL.y rfl (y_eq rfl rfl) ?_
      refine RL.nil ?_
      refine Fin.next ?_
      refine CW.cond rfl rfl (fun hc2 => ?_) (fun hc2 => ?_)
      · with_reducible first | (replace hc2 := deNF hc2) | (replace hc2 := of_decide_eq_true hc2) | (replace hc2 := of_decide_eq_false hc2) | (replace hc2 := deNT hc2) | (replace hc2 := deNN hc2) | (replace hc2 := bnT hc2) | (replace hc2 := bnF hc2) | skip
        refine CW.region ?_
        refine RL.y rfl (y_mov (by conv => lhs; whnf)) ?_
        refine RL.call rfl (l01Next_any hX9.1 (by omega)) ?_
        rintro r w10 ⟨z, rfl, ⟨hz0, hz1, -⟩, hD10⟩
        replace hz1 := hz1 (by omega)
        have hX10 := hX9.trans hD10
        obtain ⟨nz, hnz, hzz⟩ : ∃ k : Nat, k ≤ 30 ∧ 24 + z = (k : Int) := ⟨(24 + z).toNat, by omega, by omega⟩
        refine RL.y rfl (y_add rfl rfl ((show IntKind.i64.wrap (24 + z) = ((nz : Nat) : Int) by rw [IntWalk.i64_in _ (by omega)]; omega))) ?_
        refine RL.make rfl sT22 (m := nz) (by omega) (by omega) rfl (fun vm w11 hom hE11 hbm => ?_)
        have hX11 := hX10.ext hE11
        have hs10 := hX10.size
        refine RL.y rfl (y_asg (by conv => lhs; whnf)) ?_
        refine RL.nil ?_
        refine Fin.next ?_
        refine CW.seq ?_
        refine CW.region ?_
        refine RL.y rfl (y_loads ag28 rfl (eqw (hW5.drawn hX11 (by omega))) rfl) ?_
        refine RL.y rfl (y_mov (by conv => lhs; whnf)) ?_
        refine RL.stores ag28 ((hV5.drawn hX11 (by omega))) rfl rfl rfl rfl (hR3.one) (fun w12 hV12 hg12 => ?_)
        replace hV12 : VR w12 w.heap.size [vp, vd] := hV12
        have hs12 := hg12.size
        have hs11 := hX11.size
        have hM12 : Mod w.heap.size (w.heap.size + 1) w11 w12 := grown_mod hg12 (fun k hk => by simp only [Option.some.injEq] at hk; omega)
        have hR12 := (hR5.mod hX11.2 (by omega)).mod hM12 (by omega)
        have hE12 : Ext w w12 := (hX11.own (hE3.trans hE35) (by omega)).then_mod hM12 (Nat.le_refl _)
        have ho12 := hom.grown hg12 (.inl (by rw [hbm]; intro e; simp only [Option.some.injEq] at e; omega))
        rw [ints_rep] at ho12
        refine RL.y rfl (y_asg (by conv => lhs; whnf)) ?_
        refine RL.nil ?_
        refine Fin.next ?_
        refine CW.ret ?_
        refine Fin.retct rfl ag28 rfl rfl (hV12) (by conv => lhs; whnf) ?_
        exact ⟨_, rfl, _, _, ps, ds, _, rfl, hR12.wide (by omega) (by omega) (Nat.le_refl _), ho12.mono (by omega), hl, by simp; omega, hE12⟩
      · with_reducible first | (replace hc2 := deNF hc2) | (replace hc2 := of_decide_eq_true hc2) | (replace hc2 := of_decide_eq_false hc2) | (replace hc2 := deNT hc2) | (replace hc2 := deNN hc2) | (replace hc2 := bnT hc2) | (replace hc2 := bnF hc2) | skip
        have hs9 := hX9.size
        refine CW.skip ?_
        refine Fin.next ?_
        refine CW.seq ?_
        refine CW.region ?_
        refine RL.y rfl (y_loads ag28 rfl (eqw (hW5.drawn hX9 (by omega))) rfl) ?_
        refine RL.y rfl (y_mov (by conv => lhs; whnf)) ?_
        refine RL.stores ag28 ((hV5.drawn hX9 (by omega))) rfl rfl rfl rfl (hR3.one) (fun w12 hV12 hg12 => ?_)
        replace hV12 : VR w12 w.heap.size [vp, vd] := hV12
        have hs12 := hg12.size
        have hM12 : Mod w.heap.size (w.heap.size + 1) w9 w12 := grown_mod hg12 (fun k hk => by simp only [Option.some.injEq] at hk; omega)
        have hR12 := (hR5.mod hX9.2 (by omega)).mod hM12 (by omega)
        have hE12 : Ext w w12 := (hX9.own (hE3.trans hE35) (by omega)).then_mod hM12 (Nat.le_refl _)
        have ho9 := ho8.drawn hD9 hbw5
        have ho12 := ho9.grown hg12 (.inl (fun e => by have := (ho9.lt _ e).1; omega))
        refine RL.y rfl (y_asg (by conv => lhs; whnf)) ?_
        refine RL.nil ?_
        refine Fin.next ?_
        refine CW.ret ?_
        refine Fin.retct rfl ag28 rfl rfl (hV12) (by conv => lhs; whnf) ?_
        exact ⟨_, rfl, _, _, ps, ds, ns, rfl, hR12.wide (by omega) (by omega) (Nat.le_refl _), ho12.mono (by omega), hl, by omega, hE12⟩
end Go.Proofs.Ytebegkegkdmbjaa
