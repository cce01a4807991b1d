/-
  Drawn codes that may be apart.
-/
import Derived.Test.YtfpignajpihgnaaFDrawS
namespace Go.Proofs.Ytfpignajpihgnaa
open B Go.RowKit

/-- A slice that is appended to another one is as it was. -/
theorem sv_other {w w' : World} {B : Nat} {v v' c : Value} {vs : List Value} (hc : SV w c vs) (hi : InB B w.heap.size c) (hn : NB c v) (hg : w.grownBy w' v.ownBlock) (hb : v'.ownBlock = v.ownBlock ∨ ∃ b, v'.ownBlock = some b ∧ w.heap.size ≤ b) : SV w' c vs ∧ NB c v' ∧ InB B w'.heap.size c := by
  have hsz := hg.size
  refine ⟨hc.keep (fun y hy h0 => hg.block y (hc.lt h0 y hy) (fun e => hn y hy e.symm)), fun y h4 h5 => ?_, fun y hy => by have := hi y hy; omega⟩
  rcases hb with hb | ⟨b, hb, hb2⟩
  · rw [hb] at h5; exact hn y h4 h5
  · rw [hb] at h5; have := hi y h4; simp only [Option.some.injEq] at h5; omega

theorem DrawAreApart_any {w : World} {v : Value} {l : List UInt8} (hv : SV w v (byts l)) :
    Does Try.prog 41 #[v] w (fun r w' => ∃ x y d v1 rs, r = .tuple #[.int .i64 x, .int .i64 y, .int .i64 d, v1] ∧ RuSS w' w.heap.size w'.heap.size v1 rs ∧ ((0 ≤ x ∧ x ≤ 6) ∧ (1 ≤ y ∧ y ≤ 6)) ∧ (0 ≤ d ∧ d ≤ 7) ∧ Ext w w') := by
  refine enter Try.func41 rfl 74 Try.ntmps41 rfl (by kernel_rfl) ?_
  refine CW.seq ?_
  refine CW.region ?_
  refine RL.y rfl (y_asg rfl) ?_
  refine RL.y rfl (y_asg rfl) ?_
  refine RL.y rfl (y_asg rfl) ?_
  refine RL.y rfl (y_asg rfl) ?_
  refine RL.nil ?_
  refine Fin.next ?_
  refine CW.seq ?_
  refine CW.region ?_
  refine RL.y rfl (y_mov (by conv => lhs; whnf)) ?_
  refine RL.call rfl (l01From_any hv) ?_
  rintro r w1 ⟨rfl, hS1, hE1⟩
  refine RL.y rfl (y_asg (by conv => lhs; whnf)) ?_
  refine RL.nil ?_
  refine Fin.next ?_
  refine CW.seq ?_
  refine CW.region ?_
  refine RL.y rfl (y_mov (by conv => lhs; whnf)) ?_
  refine RL.call rfl (l07DrawSystem_any hS1) ?_
  rintro r w2 ⟨x, y, rfl, hb, hD2⟩
  have hs1 := hE1.size
  have hlt := hS1.lt
  refine RL.y rfl (y_mov (by conv => lhs; whnf)) ?_
  refine RL.y rfl (y_ext0 rfl) ?_
  refine RL.y rfl (y_ext1 rfl) ?_
  refine RL.y rfl (y_asg (v := .int _ _) rfl) ?_
  refine RL.y rfl (y_asg (v := .int _ _) rfl) ?_
  refine RL.nil ?_
  refine Fin.next ?_
  refine CW.seq ?_
  refine CW.region ?_
  refine RL.y rfl (y_mov (by conv => lhs; whnf)) ?_
  refine RL.y rfl (y_mov (v := .int _ _) rfl) ?_
  refine RL.call rfl (l07DrawDistance_any hD2.1 hb.1) ?_
  rintro r w3 ⟨d, rfl, hd, hD3⟩
  have hD13 := hD2.trans hD3
  have hs3 := hD13.size
  refine RL.y rfl (y_asg (v := .int _ _) rfl) ?_
  refine RL.nil ?_
  refine Fin.next ?_
  refine CW.seq ?_
  refine CW.region ?_
  refine RL.lit0 rfl sT33 (fun vo w4 ho4 hE4 hb4 => ?_)
  have hX4 := hD13.ext hE4
  have hs4 := hE4.size
  refine RL.y rfl (y_asg (by conv => lhs; whnf)) ?_
  refine RL.nil ?_
  refine Fin.next ?_
  refine CW.seq ?_
  refine CW.seq ?_
  refine CW.region ?_
  refine RL.y rfl (y_mov (by conv => lhs; whnf)) ?_
  refine RL.call rfl (l01Next_any hX4.1 (by omega)) ?_
  rintro r w5 ⟨n, rfl, ⟨hn0, hn1, -⟩, hD5⟩
  replace hn1 := hn1 (by omega)
  have hX5 := hX4.trans hD5
  obtain ⟨k0, rfl⟩ := Int.eq_ofNat_of_zero_le hn0
  have ho5 : OwC ints 2 25 w5 w3.heap.size w5.heap.size vo [] [] := OwC.nil (ho4.drawn hD5 (by omega))
  refine RL.y rfl (y_asg (v := .int _ _) rfl) ?_
  refine RL.nil ?_
  refine Fin.next ?_
  refine CW.block ?_
  refine CW.loop (fun q E w' => ∃ (k : Nat) (vo : Value) (cs : List Value) (U : Nat) (rs : List (List Int)), k = q ∧ k + rs.length ≤ 5 ∧ agrees E [(6, .pointer (some ⟨w.heap.size, 0, none⟩)), (7, .int .i64 x), (8, .int .i64 y), (9, .int .i64 d), (10, vo), (11, .int .i64 (k : Int))] ∧ OwC ints 2 25 w' w3.heap.size U vo cs rs ∧ w3.heap.size ≤ w'.heap.size ∧ Drawn w1 w.heap.size w') _ (⟨k0, vo, [], _, [], rfl, by simp; omega, ⟨rfl, rfl, rfl, rfl, rfl, rfl, trivial⟩, ho5, by have := hD5.size; omega, hX5⟩) ?_
  · rintro q E w6 ⟨k, vo, cs, U, rs, rfl, hkr, hag, ho6, hs6, hX6⟩
    refine CW.re _ hag rfl ?_
    refine CW.seq ?_
    refine CW.seq ?_
    refine CW.region ?_
    refine RL.y rfl (y_mov (v := .int _ _) rfl) ?_
    refine RL.y rfl (y_gt rfl rfl) ?_
    refine RL.nil ?_
    refine Fin.next ?_
    refine CW.cond rfl rfl (fun hc => ?_) (fun hc => ?_)
    · with_reducible first | (replace hc := deNF hc) | (replace hc := of_decide_eq_true hc) | (replace hc := of_decide_eq_false hc) | (replace hc := deNT hc) | (replace hc := deNN hc) | (replace hc := bnT hc) | (replace hc := bnF hc) | skip
      refine CW.skip ?_
      refine Fin.next ?_
      refine CW.seq ?_
      refine CW.block ?_
      refine CW.region ?_
      refine RL.y rfl (y_mov (by conv => lhs; whnf)) ?_
      refine RL.y rfl (y_mov (by conv => lhs; whnf)) ?_
      refine RL.y rfl (y_mov (v := .int _ _) rfl) ?_
      refine RL.y rfl (y_mov (v := .int _ _) rfl) ?_
      refine RL.call rfl (l07DrawCode_any hX6.1 (by omega) (by omega)) ?_
      rintro vc w7 ⟨ns, hc7, hcl, hD7⟩
      have hs7 := hD7.size
      have ho7 := ho6.mod hD7.2 (.inr (by omega))
      have hX7 := hX6.trans hD7
      have hU := ho6.1.2.1
      have hcl7 := ho7.2.1
      refine RL.app1 rfl rfl sT33 (by omega) ho7.1.ov (by omega) (by omega) rfl (slice_one hc7.sv) (fun _ => rfl) (fun u v8 w8 ho8 hg8 hn8 => ?_)
      have hp := ho7.push (hc7.mono (by omega)) (fun b hb => by have := (hc7.lt b hb).1; omega) ho8 hg8 hn8
      have hs8 := hg8.size
      refine RL.y rfl (y_asg (by conv => lhs; whnf)) ?_
      refine RL.nil ?_
      refine Fin.blockNormal ?_
      refine Fin.next ?_
      refine CW.region ?_
      refine RL.y rfl (y_mov (v := .int _ _) rfl) ?_
      refine RL.y rfl (y_sub rfl rfl (IntWalk.i64_in _ (by omega))) ?_
      refine RL.y rfl (y_asg (v := .int _ _) rfl) ?_
      refine RL.nil ?_
      refine Fin.le ?_
      exact ⟨k - 1, by omega, k - 1, v8, _, _, _, rfl, by simp; omega, ⟨rfl, rfl, rfl, rfl, rfl, by rw [show ((k - 1 : Nat) : Int) = (k : Int) - 1 from by omega]; rfl, trivial⟩, hp, by omega, hX7.grown (by omega) hg8 (fun b hb => by have := (ho7.1.lt b hb).1; omega)⟩
    · with_reducible first | (replace hc := deNF hc) | (replace hc := of_decide_eq_true hc) | (replace hc := of_decide_eq_false hc) | (replace hc := deNT hc) | (replace hc := deNN hc) | (replace hc := bnT hc) | (replace hc := bnF hc) | skip
      refine CW.exit ?_
      refine Fin.thenExit ?_
      refine Fin.thenExit ?_
      refine Fin.blockHit ?_
      refine Fin.next ?_
      refine CW.cut (fun E w' => ∃ (vo : Value) (cs : List Value) (rs : List (List Int)), agrees E [(6, .pointer (some ⟨w.heap.size, 0, none⟩)), (7, .int .i64 x), (8, .int .i64 y), (9, .int .i64 d), (10, vo)] ∧ OwW ints 25 w' w3.heap.size vo cs rs ∧ rs.length ≤ 8 ∧ w3.heap.size ≤ w'.heap.size ∧ Drawn w1 w.heap.size w') ?_ ?_
      · refine CW.seq ?_
        refine CW.region ?_
        refine RL.y rfl (y_mov (v := .int _ _) rfl) ?_
        refine RL.y rfl (y_mov (v := .int _ _) rfl) ?_
        refine RL.y rfl (y_mov (v := .int _ _) rfl) ?_
        refine RL.call rfl (l07Distance_any) ?_
        rintro r w7 ⟨rfl, rfl⟩
        refine RL.y rfl (y_mov (v := .bool _) rfl) ?_
        refine RL.split (t := 41) rfl rfl (fun h1 => ?_) (fun h1 => ?_)
        · with_reducible first | (replace h1 := deNF h1) | (replace h1 := of_decide_eq_true h1) | (replace h1 := of_decide_eq_false h1) | (replace h1 := deNT h1) | (replace h1 := deNN h1) | (replace h1 := bnT h1) | (replace h1 := bnF h1) | skip
          refine RL.take (t := 41) rfl rfl rfl ?_
          refine RL.y rfl (y_mov (by conv => lhs; whnf)) ?_
          refine RL.take (t := 41) rfl rfl rfl ?_
          refine RL.call rfl (l01Next_any hX6.1 (by omega)) ?_
          rintro r w7 ⟨z, rfl, -, hD7⟩
          have hX7 := hX6.trans hD7
          have hs7 := hD7.size
          refine RL.take (t := 41) rfl rfl rfl ?_
          refine RL.y rfl (y_eq rfl rfl) ?_
          refine RL.y rfl (y_pickT (v := .bool _) rfl rfl) ?_
          refine RL.nil ?_
          refine Fin.next ?_
          refine CW.cond rfl rfl (fun h2 => ?_) (fun h2 => ?_)
          · with_reducible first | (replace h2 := deNF h2) | (replace h2 := of_decide_eq_true h2) | (replace h2 := of_decide_eq_false h2) | (replace h2 := deNT h2) | (replace h2 := deNN h2) | (replace h2 := bnT h2) | (replace h2 := bnF h2) | skip
            refine CW.region ?_
            refine RL.y rfl (y_mov (v := .int _ _) rfl) ?_
            refine RL.y rfl (y_mov (v := .int _ _) rfl) ?_
            refine RL.y rfl (y_mov (v := .int _ _) rfl) ?_
            refine RL.call rfl (specFamiliesOf_any) ?_
            rintro r w8 ⟨v8, rfl, ⟨cv8, ho8⟩, hE8⟩
            have hfl : (fmV x y d 8).length ≤ 8 := by unfold fmV; split; (rw [List.length_take]; omega); simp
            have hs8 := hE8.size
            refine RL.y rfl (y_mov (by conv => lhs; whnf)) ?_
            refine RL.y rfl (y_ext0 rfl) ?_
            refine RL.y rfl (y_ext1 rfl) ?_
            refine RL.y rfl (y_asg (by conv => lhs; whnf)) ?_
            refine RL.nil ?_
            refine Fin.le ?_
            exact ⟨v8, cv8, fmV x y d 8, ⟨rfl, rfl, rfl, rfl, rfl, trivial⟩, ho8.ww.mono (by omega), hfl, by omega, hX7.ext hE8⟩
          · with_reducible first | (replace h2 := deNF h2) | (replace h2 := of_decide_eq_true h2) | (replace h2 := of_decide_eq_false h2) | (replace h2 := deNT h2) | (replace h2 := deNN h2) | (replace h2 := bnT h2) | (replace h2 := bnF h2) | skip
            refine CW.skip ?_
            refine Fin.le ?_
            exact ⟨vo, cs, rs, ⟨rfl, rfl, rfl, rfl, rfl, trivial⟩, ho6.ww.drawn hD7 (by omega), by omega, by omega, hX7⟩
        · with_reducible first | (replace h1 := deNF h1) | (replace h1 := of_decide_eq_true h1) | (replace h1 := of_decide_eq_false h1) | (replace h1 := deNT h1) | (replace h1 := deNN h1) | (replace h1 := bnT h1) | (replace h1 := bnF h1) | skip
          refine RL.pass (t := 41) rfl rfl rfl rfl ?_
          refine RL.pass (t := 41) rfl rfl rfl rfl ?_
          refine RL.pass (t := 41) rfl rfl rfl rfl ?_
          refine RL.y rfl (y_pickF (v := .bool _) rfl rfl) ?_
          refine RL.nil ?_
          refine Fin.next ?_
          refine CW.condF rfl rfl ?_
          refine CW.skip ?_
          refine Fin.le ?_
          exact ⟨vo, cs, rs, ⟨rfl, rfl, rfl, rfl, rfl, trivial⟩, ho6.ww, by omega, by omega, hX6⟩
      · rintro E w7 ⟨vo, cs, rs, hag, ho7, hrl, hs7, hX7⟩
        refine CW.re _ hag rfl ?_
        refine CW.seq ?_
        refine CW.seq ?_
        refine CW.region ?_
        refine RL.y rfl (y_mov (by conv => lhs; whnf)) ?_
        refine RL.call rfl (l01Next_any hX7.1 (by omega)) ?_
        rintro r w8 ⟨z, rfl, -, hD8⟩
        have hX8 := hX7.trans hD8
        have hs8 := hD8.size
        have ho8 := ho7.drawn hD8 (by omega)
        refine RL.y rfl (y_eq rfl rfl) ?_
        refine RL.nil ?_
        refine Fin.next ?_
        refine CW.cond rfl rfl (fun h3 => ?_) (fun h3 => ?_)
        · with_reducible first | (replace h3 := deNF h3) | (replace h3 := of_decide_eq_true h3) | (replace h3 := of_decide_eq_false h3) | (replace h3 := deNT h3) | (replace h3 := deNN h3) | (replace h3 := bnT h3) | (replace h3 := bnF h3) | skip
          refine CW.seq ?_
          refine CW.region ?_
          refine RL.y rfl (y_mov (by conv => lhs; whnf)) ?_
          refine RL.y rfl (y_mov (v := .int _ _) rfl) ?_
          refine RL.y rfl (y_mov (v := .int _ _) rfl) ?_
          refine RL.call rfl (l07DrawCode_any hX8.1 (by omega) (by omega)) ?_
          rintro vc w9 ⟨ns, hc9, hcl, hD9⟩
          have hX9 := hX8.trans hD9
          have hs9 := hD9.size
          have ho9 := ho8.drawn hD9 (by omega)
          have hob : ∀ b, vo.ownBlock = some b → b < w8.heap.size := fun b hb => (ho8.1.lt b hb).2
          refine RL.y rfl (y_asg (by conv => lhs; whnf)) ?_
          refine RL.nil ?_
          refine Fin.next ?_
          refine CW.block ?_
          refine CW.loop (fun q E w' => ∃ (vo : Value) (cs : List Value) (rs : List (List Int)), 61 - rs.length = q ∧ rs.length ≤ 61 ∧ agrees E [(6, .pointer (some ⟨w.heap.size, 0, none⟩)), (7, .int .i64 x), (8, .int .i64 y), (9, .int .i64 d), (10, vo), (12, vc)] ∧ OwW ints 25 w' w3.heap.size vo cs rs ∧ (SV w' vc (ints ns) ∧ NB vc vo ∧ InB w3.heap.size w'.heap.size vc) ∧ w3.heap.size ≤ w'.heap.size ∧ Drawn w1 w.heap.size w') _ (⟨vo, cs, rs, rfl, by omega, ⟨rfl, rfl, rfl, rfl, rfl, rfl, trivial⟩, ho9, ⟨hc9.sv, (fun b h1 h2 => by have := (hc9.lt b h1).1; have := hob b h2; omega), (fun b hb => by have := hc9.lt b hb; omega)⟩, by omega, hX9⟩) ?_
          · rintro q E w10 ⟨vo, cs, rs, rfl, hrl, hag, ho10, ⟨hc10, hn10, hi10⟩, hs10, hX10⟩
            refine CW.re _ hag rfl ?_
            have hcl10 := ho10.2.1
            refine CW.seq ?_
            refine CW.seq ?_
            refine CW.region ?_
            refine RL.y rfl (y_mov (by conv => lhs; whnf)) ?_
            refine RL.y rfl (y_len sT33 ho10.1.sv hcl10 rfl) ?_
            refine RL.y rfl (y_mov (by conv => lhs; whnf)) ?_
            refine RL.call rfl (l01Next_any hX10.1 (by omega)) ?_
            rintro r w11 ⟨z2, rfl, ⟨hz0, hz1, -⟩, hD11⟩
            replace hz1 := hz1 (by omega)
            have hX11 := hX10.trans hD11
            have hs11 := hD11.size
            have ho11 := ho10.drawn hD11 (by omega)
            have hc11 := SV.mod' hc10 hi10 hD11.2 (.inr (by omega))
            have hi11 : InB w3.heap.size w11.heap.size vc := fun b hb => by have := hi10 b hb; omega
            refine RL.y rfl (y_add rfl rfl (IntWalk.i64_in _ (by omega))) ?_
            refine RL.y rfl (y_lt rfl rfl) ?_
            refine RL.nil ?_
            refine Fin.next ?_
            refine CW.cond rfl rfl (fun h4 => ?_) (fun h4 => ?_)
            · with_reducible first | (replace h4 := deNF h4) | (replace h4 := of_decide_eq_true h4) | (replace h4 := of_decide_eq_false h4) | (replace h4 := deNT h4) | (replace h4 := deNN h4) | (replace h4 := bnT h4) | (replace h4 := bnF h4) | skip
              refine CW.skip ?_
              refine Fin.next ?_
              refine CW.block ?_
              refine CW.region ?_
              refine RL.y rfl (y_mov (by conv => lhs; whnf)) ?_
              refine RL.y rfl (y_mov (by conv => lhs; whnf)) ?_
              refine RL.app1 rfl rfl sT33 (by omega) ho11.1 (by omega) (by omega) rfl (slice_one hc11) (fun _ => rfl) (fun u v12 w12 ho12 hg12 hn12 => ?_)
              have hp := ho11.push hc11 hi11 hn10 ho12 hg12 hn12
              have hs12 := hg12.size
              refine RL.y rfl (y_asg (by conv => lhs; whnf)) ?_
              refine RL.nil ?_
              refine Fin.blockNormal ?_
              refine Fin.le ?_
              exact ⟨61 - (rs ++ [ns]).length, by simp; omega, v12, _, rs ++ [ns], rfl, by simp; omega, ⟨rfl, rfl, rfl, rfl, rfl, rfl, trivial⟩, hp, sv_other hc11 hi11 hn10 hg12 hn12, by omega, hX11.grown (by omega) hg12 (fun b hb => by have := (ho11.1.lt b hb).1; omega)⟩
            · with_reducible first | (replace h4 := deNF h4) | (replace h4 := of_decide_eq_true h4) | (replace h4 := of_decide_eq_false h4) | (replace h4 := deNT h4) | (replace h4 := deNN h4) | (replace h4 := bnT h4) | (replace h4 := bnF h4) | skip
              refine CW.exit ?_
              refine Fin.thenExit ?_
              refine Fin.thenExit ?_
              refine Fin.blockHit ?_
              refine Fin.next ?_
              refine CW.seq ?_
              refine CW.region ?_
              refine RL.y rfl (y_mov (v := .int _ _) rfl) ?_
              refine RL.y rfl (y_mov (v := .int _ _) rfl) ?_
              refine RL.y rfl (y_mov (v := .int _ _) rfl) ?_
              refine RL.y rfl (y_mov (by conv => lhs; whnf)) ?_
              refine RL.y rfl (y_asg (v := .int _ _) rfl) ?_
              refine RL.y rfl (y_asg (v := .int _ _) rfl) ?_
              refine RL.y rfl (y_asg (v := .int _ _) rfl) ?_
              refine RL.y rfl (y_asg (by conv => lhs; whnf)) ?_
              refine RL.nil ?_
              refine Fin.next ?_
              refine CW.ret ?_
              refine Fin.ret4 rfl (by conv => lhs; whnf) (by conv => lhs; whnf) (by conv => lhs; whnf) (by conv => lhs; whnf) ?_
              exact ⟨_, rfl, x, y, d, vo, rs, rfl, RuN.wide ho11.ru (by omega) (Nat.le_refl _) (Nat.le_refl _), hb, hd, hX11.own hE1 (Nat.le_refl _)⟩
        · with_reducible first | (replace h3 := deNF h3) | (replace h3 := of_decide_eq_true h3) | (replace h3 := of_decide_eq_false h3) | (replace h3 := deNT h3) | (replace h3 := deNN h3) | (replace h3 := bnT h3) | (replace h3 := bnF h3) | skip
          refine CW.skip ?_
          refine Fin.next ?_
          refine CW.seq ?_
          refine CW.region ?_
          refine RL.y rfl (y_mov (v := .int _ _) rfl) ?_
          refine RL.y rfl (y_mov (v := .int _ _) rfl) ?_
          refine RL.y rfl (y_mov (v := .int _ _) rfl) ?_
          refine RL.y rfl (y_mov (by conv => lhs; whnf)) ?_
          refine RL.y rfl (y_asg (v := .int _ _) rfl) ?_
          refine RL.y rfl (y_asg (v := .int _ _) rfl) ?_
          refine RL.y rfl (y_asg (v := .int _ _) rfl) ?_
          refine RL.y rfl (y_asg (by conv => lhs; whnf)) ?_
          refine RL.nil ?_
          refine Fin.next ?_
          refine CW.ret ?_
          refine Fin.ret4 rfl (by conv => lhs; whnf) (by conv => lhs; whnf) (by conv => lhs; whnf) (by conv => lhs; whnf) ?_
          exact ⟨_, rfl, x, y, d, vo, rs, rfl, RuN.wide ho8.ru (by omega) (Nat.le_refl _) (Nat.le_refl _), hb, hd, hX8.own hE1 (Nat.le_refl _)⟩
end Go.Proofs.Ytfpignajpihgnaa
