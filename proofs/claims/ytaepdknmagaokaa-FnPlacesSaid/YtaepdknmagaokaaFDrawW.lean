/-
  Drawn makers, cuts, keys and locks.
-/
import Derived.Test.YtaepdknmagaokaaFDraw
import Derived.Test.YtaepdknmagaokaaFNbr
import Derived.Test.YtaepdknmagaokaaRet
namespace Go.Proofs.Ytaepdknmagaokaa
open B Go.RowKit

abbrev mkL (q : Mk) : List Value := [.int .i64 q.ch, .int .i64 q.dp, .int .i64 q.st, .int .i64 q.sm, .int .i64 q.le]
/-- A maker of small numbers. -/
def smM (q : Mk) : Prop := (-100 ≤ q.ch ∧ q.ch ≤ 100) ∧ (-100 ≤ q.dp ∧ q.dp ≤ 100) ∧ (-100 ≤ q.st ∧ q.st ≤ 100) ∧ (-100 ≤ q.sm ∧ q.sm ≤ 100) ∧ (-100 ≤ q.le ∧ q.le ≤ 100)
theorem smM_of {q : Mk} (h : mkOk q) : smM q := by
  obtain ⟨m1, m2, m3, m4, m5⟩ := h
  unfold smM; omega

theorem l02Valid_any {w : World} {b : Nat} (hs : Src w b) :
    Does Try.prog 83 #[.pointer (some ⟨b, 0, none⟩)] w (fun r w' => ∃ q, r = mkA q ∧ mkOk q ∧ Drawn w b w') := by
  have hb0 := hs.lt
  refine enter Try.func83 rfl 34 Try.ntmps83 rfl (by kernel_rfl) ?_
  refine CW.seq ?_
  refine CW.region ?_
  refine RL.alloc rfl ze25 (fun w1 hV hE1 => ?_)
  have hl1 := hV.lt
  have hX1 := (Drawn.refl hs).ext hE1
  refine RL.nil ?_
  refine Fin.next ?_
  refine CW.seq ?_
  refine CW.region ?_
  refine RL.y rfl (y_mov (by conv => lhs; whnf)) ?_
  refine RL.call rfl (l01Next_any hX1.1 (by omega)) ?_
  rintro r w2 ⟨x2, rfl, ⟨p2, q2, -⟩, hD2⟩
  replace q2 := q2 (by omega)
  have hX2 := hX1.trans hD2
  have hs2 := hD2.size
  refine RL.y rfl (y_add rfl rfl (IntWalk.i64_in _ (by omega))) ?_
  refine RL.y rfl (y_mov (by conv => lhs; whnf)) ?_
  refine RL.call rfl (l01Next_any hX2.1 (by omega)) ?_
  rintro r w3 ⟨x3, rfl, ⟨p3, q3, -⟩, hD3⟩
  replace q3 := q3 (by omega)
  have hX3 := hX2.trans hD3
  have hs3 := hD3.size
  refine RL.y rfl (y_add rfl rfl (IntWalk.i64_in _ (by omega))) ?_
  refine RL.y rfl (y_build bd25 rfl (fill_one rfl rfl rfl (fill_one rfl rfl rfl fill_nil))) ?_
  refine RL.alloc rfl ze25 (fun w4 hM hE4 => ?_)
  have hl4 := hM.lt
  refine RL.stores ag25 (hM) rfl rfl rfl rfl (rfl) (fun w5 hM5 hg5 => ?_)
  replace hM5 : VR w5 w3.heap.size [.int .i64 (2 + x2), .int .i64 (2 + x3), .int .i64 0, .int .i64 0, .int .i64 0] := hM5
  have hE35 : Ext w3 w5 := hE4.grown hg5 (fun k hk => by simp only [Option.some.injEq] at hk; omega)
  have hX5 := hX3.ext hE35
  have hs5 := hE35.size
  refine RL.nil ?_
  refine Fin.next ?_
  refine CW.seq ?_
  refine CW.region ?_
  refine RL.y rfl (y_mov (by conv => lhs; whnf)) ?_
  refine RL.y rfl (y_fa fa25_1 rfl rfl) ?_
  refine RL.y rfl (y_loadv sc2 (eqw (hM5)) rfl rfl) ?_
  refine RL.y rfl (y_sub rfl rfl (IntWalk.i64_in _ (by omega))) ?_
  refine RL.call rfl (l01Next_any hX5.1 (by omega)) ?_
  rintro r w6 ⟨x6, rfl, ⟨p6, q6, -⟩, hD6⟩
  replace q6 := q6 (by omega)
  have hX6 := hX5.trans hD6
  have hs6 := hD6.size
  refine RL.y rfl (y_add rfl rfl (IntWalk.i64_in _ (by omega))) ?_
  refine RL.y rfl (y_fa fa25_2 rfl rfl) ?_
  refine RL.storev so2 (hM5.drawn hD6 (by omega)) (by simp) rfl rfl (rfl) (fun w7 hM7 hg7 => ?_)
  replace hM7 : VR w7 w3.heap.size [.int .i64 (2 + x2), .int .i64 (2 + x3), .int .i64 (1 + x6), .int .i64 0, .int .i64 0] := hM7
  have hX7 := hX6.grown hb0 hg7 (fun k hk => by simp only [Option.some.injEq] at hk; omega)
  have hs7 := hg7.size
  refine RL.nil ?_
  refine Fin.next ?_
  refine CW.seq ?_
  refine CW.region ?_
  refine RL.y rfl (y_mov (by conv => lhs; whnf)) ?_
  refine RL.y rfl (y_fa fa25_0 rfl rfl) ?_
  refine RL.y rfl (y_loadv sc2 (eqw (hM7)) rfl rfl) ?_
  refine RL.call rfl (l01Next_any hX7.1 (by omega)) ?_
  rintro r w8 ⟨x8, rfl, ⟨p8, q8, -⟩, hD8⟩
  replace q8 := q8 (by omega)
  have hX8 := hX7.trans hD8
  have hs8 := hD8.size
  refine RL.y rfl (y_add rfl rfl (IntWalk.i64_in _ (by omega))) ?_
  refine RL.y rfl (y_fa fa25_3 rfl rfl) ?_
  refine RL.storev so2 (hM7.drawn hD8 (by omega)) (by simp) rfl rfl (rfl) (fun w9 hM9 hg9 => ?_)
  replace hM9 : VR w9 w3.heap.size [.int .i64 (2 + x2), .int .i64 (2 + x3), .int .i64 (1 + x6), .int .i64 (1 + x8), .int .i64 0] := hM9
  have hX9 := hX8.grown hb0 hg9 (fun k hk => by simp only [Option.some.injEq] at hk; omega)
  have hs9 := hg9.size
  refine RL.nil ?_
  refine Fin.next ?_
  refine CW.seq ?_
  refine CW.region ?_
  refine RL.y rfl (y_mov (by conv => lhs; whnf)) ?_
  refine RL.y rfl (y_fa fa25_0 rfl rfl) ?_
  refine RL.y rfl (y_loadv sc2 (eqw (hM9)) rfl rfl) ?_
  refine RL.y rfl (y_fa fa25_1 rfl rfl) ?_
  refine RL.y rfl (y_loadv sc2 (eqw (hM9)) rfl rfl) ?_
  refine RL.y rfl (y_min3 rfl rfl rfl) ?_
  refine RL.call rfl (l01Next_any hX9.1 (by omega)) ?_
  rintro r w10 ⟨x10, rfl, ⟨p10, q10, -⟩, hD10⟩
  replace q10 := q10 (by omega)
  have hX10 := hX9.trans hD10
  have hs10 := hD10.size
  refine RL.y rfl (y_add rfl rfl (IntWalk.i64_in _ (by omega))) ?_
  refine RL.y rfl (y_fa fa25_4 rfl rfl) ?_
  refine RL.storev so2 (hM9.drawn hD10 (by omega)) (by simp) rfl rfl (rfl) (fun w11 hM11 hg11 => ?_)
  replace hM11 : VR w11 w3.heap.size [.int .i64 (2 + x2), .int .i64 (2 + x3), .int .i64 (1 + x6), .int .i64 (1 + x8), .int .i64 (1 + x10)] := hM11
  have hX11 := hX10.grown hb0 hg11 (fun k hk => by simp only [Option.some.injEq] at hk; omega)
  have hs11 := hg11.size
  have hV11 := (((((((hV.drawn hD2 (by omega)).drawn hD3 (by omega)).ext hE35).drawn hD6 (by omega)).grown hg7 (fun e => by simp only [Option.some.injEq] at e; omega)).drawn hD8 (by omega)).grown hg9 (fun e => by simp only [Option.some.injEq] at e; omega)).drawn hD10 (by omega)
  replace hV11 := hV11.grown hg11 (fun e => by simp only [Option.some.injEq] at e; omega)
  refine RL.nil ?_
  refine Fin.next ?_
  refine CW.seq ?_
  refine CW.region ?_
  refine RL.y rfl (y_loads ag25 rfl (eqw (hM11)) rfl) ?_
  refine RL.stores ag25 (hV11) rfl rfl rfl rfl (rfl) (fun w12 hV12 hg12 => ?_)
  have hX12 := hX11.grown hb0 hg12 (fun k hk => by simp only [Option.some.injEq] at hk; omega)
  refine RL.nil ?_
  refine Fin.next ?_
  refine CW.ret ?_
  refine Fin.retc rfl ag25 rfl rfl (hV12) ?_
  exact ⟨_, rfl, ⟨2 + x2, 2 + x3, 1 + x6, 1 + x8, 1 + x10⟩, rfl, by unfold mkOk; simp only; omega, hX12⟩

theorem l02Draw_any {w : World} {b : Nat} (hs : Src w b) :
    Does Try.prog 84 #[.pointer (some ⟨b, 0, none⟩)] w (fun r w' => ∃ q, r = mkA q ∧ smM q ∧ Drawn w b w') := by
  have hb0 := hs.lt
  refine enter Try.func84 rfl 69 Try.ntmps84 rfl (by kernel_rfl) ?_
  refine CW.seq ?_
  refine CW.region ?_
  refine RL.alloc rfl ze25 (fun w1 hV hE1 => ?_)
  have hl1 := hV.lt
  have hX1 := (Drawn.refl hs).ext hE1
  refine RL.nil ?_
  refine Fin.next ?_
  refine CW.seq ?_
  refine CW.region ?_
  refine RL.y rfl (y_mov (by conv => lhs; whnf)) ?_
  refine RL.call rfl (l02Valid_any hX1.1) ?_
  rintro r w2 ⟨q, rfl, hmk, hD2⟩
  have hX2 := hX1.trans hD2
  have hs2 := hD2.size
  have hsm := smM_of hmk
  obtain ⟨m1, m2, m3, m4, m5⟩ := id hmk
  refine RL.alloc rfl ze25 (fun w3 hM hE3 => ?_)
  have hl3 := hM.lt
  refine RL.stores ag25 (hM) rfl rfl rfl rfl (rfl) (fun w4 hM4 hg4 => ?_)
  replace hM4 : VR w4 w2.heap.size (mkL q) := hM4
  have hE24 : Ext w2 w4 := hE3.grown hg4 (fun k hk => by simp only [Option.some.injEq] at hk; omega)
  have hX4 := hX2.ext hE24
  have hs4 := hE24.size
  refine RL.nil ?_
  refine Fin.next ?_
  refine CW.seq ?_
  refine CW.seq ?_
  refine CW.region ?_
  refine RL.y rfl (y_mov (by conv => lhs; whnf)) ?_
  refine RL.call rfl (l01Next_any hX4.1 (by omega)) ?_
  rintro r w5 ⟨x5, rfl, ⟨p5, q5, -⟩, hD5⟩
  replace q5 := q5 (by omega)
  have hX5 := hX4.trans hD5
  have hs5 := hD5.size
  have hM6 := hM4.drawn hD5 (by omega)
  have hV6 := ((hV.drawn hD2 (by omega)).ext hE24).drawn hD5 (by omega)
  clear hM4 hM
  refine RL.nil ?_
  refine Fin.next ?_
  refine CW.block ?_
  refine CW.seq ?_
  refine CW.region ?_
  refine RL.y rfl (y_eq rfl rfl) ?_
  refine RL.y rfl (y_asg (v := .bool _) rfl) ?_
  refine RL.nil ?_
  refine Fin.next ?_
  refine CW.cond rfl rfl (fun h0 => ?_) (fun h0 => ?_)
  · with_reducible first | (replace h0 := deNF h0) | (replace h0 := of_decide_eq_true h0) | (replace h0 := of_decide_eq_false h0) | (replace h0 := deNT h0) | (replace h0 := deNN h0) | (replace h0 := bnT h0) | (replace h0 := bnF h0) | skip
    refine CW.region ?_
    refine RL.y rfl (y_mov (by conv => lhs; whnf)) ?_
    refine RL.lits [.int .i64 (1), .int .i64 (6), .int .i64 (7)] rfl sT29 rfl (by omega) (by simp [Value.oneCell']) rfl (fun vl w7 hl7 hE7 hb7 => ?_)
    have hX7 := hX5.ext hE7
    have hs7 := hE7.size
    refine RL.call rfl (l01Pick_any (xs := [1, 6, 7]) hX7.1 hl7.sv (by simp) (fun x hx => by have := (hl7.lt x hx).1; omega)) ?_
    rintro r w8 ⟨z, rfl, hz, hD8⟩
    have hzz : -100 ≤ z ∧ z ≤ 100 := by simp only [List.mem_cons, List.not_mem_nil, or_false] at hz; omega
    have hX8 := hX7.trans hD8
    have hs8 := hD8.size
    refine RL.y rfl (y_fa fa25_0 rfl rfl) ?_
    refine RL.storev so2 ((hM6.ext hE7).drawn hD8 (by omega)) (by simp) rfl rfl (rfl) (fun w9 hM9 hg9 => ?_)
    replace hM9 : VR w9 w2.heap.size (mkL ⟨z, q.dp, q.st, q.sm, q.le⟩) := hM9
    have hX9 := hX8.grown hb0 hg9 (fun k hk => by simp only [Option.some.injEq] at hk; omega)
    have hs9 := hg9.size
    have hV9 := ((hV6.ext hE7).drawn hD8 (by omega)).grown hg9 (fun e => by simp only [Option.some.injEq] at e; omega)
    refine RL.nil ?_
    refine Fin.blockNormal ?_
    refine Fin.next ?_
    refine CW.seq ?_
    refine CW.region ?_
    refine RL.y rfl (y_loads ag25 rfl (eqw (hM9)) rfl) ?_
    refine RL.stores ag25 (hV9) rfl rfl rfl rfl (rfl) (fun w20 hV20 hg20 => ?_)
    have hX20 := hX9.grown hb0 hg20 (fun k hk => by simp only [Option.some.injEq] at hk; omega)
    refine RL.nil ?_
    refine Fin.next ?_
    refine CW.ret ?_
    refine Fin.retc rfl ag25 rfl rfl (hV20) ?_
    exact ⟨_, rfl, _, rfl, by unfold smM; simp only; omega, hX20⟩
  · with_reducible first | (replace h0 := deNF h0) | (replace h0 := of_decide_eq_true h0) | (replace h0 := of_decide_eq_false h0) | (replace h0 := deNT h0) | (replace h0 := deNN h0) | (replace h0 := bnT h0) | (replace h0 := bnF h0) | skip
    refine CW.seq ?_
    refine CW.region ?_
    refine RL.y rfl (y_eq rfl rfl) ?_
    refine RL.y rfl (y_asg (v := .bool _) rfl) ?_
    refine RL.nil ?_
    refine Fin.next ?_
    refine CW.cond rfl rfl (fun h1 => ?_) (fun h1 => ?_)
    · with_reducible first | (replace h1 := deNF h1) | (replace h1 := of_decide_eq_true h1) | (replace h1 := of_decide_eq_false h1) | (replace h1 := deNT h1) | (replace h1 := deNN h1) | (replace h1 := bnT h1) | (replace h1 := bnF h1) | skip
      refine CW.region ?_
      refine RL.y rfl (y_mov (by conv => lhs; whnf)) ?_
      refine RL.lits [.int .i64 (1), .int .i64 (8), .int .i64 (9)] rfl sT29 rfl (by omega) (by simp [Value.oneCell']) rfl (fun vl w7 hl7 hE7 hb7 => ?_)
      have hX7 := hX5.ext hE7
      have hs7 := hE7.size
      refine RL.call rfl (l01Pick_any (xs := [1, 8, 9]) hX7.1 hl7.sv (by simp) (fun x hx => by have := (hl7.lt x hx).1; omega)) ?_
      rintro r w8 ⟨z, rfl, hz, hD8⟩
      have hzz : -100 ≤ z ∧ z ≤ 100 := by simp only [List.mem_cons, List.not_mem_nil, or_false] at hz; omega
      have hX8 := hX7.trans hD8
      have hs8 := hD8.size
      refine RL.y rfl (y_fa fa25_1 rfl rfl) ?_
      refine RL.storev so2 ((hM6.ext hE7).drawn hD8 (by omega)) (by simp) rfl rfl (rfl) (fun w9 hM9 hg9 => ?_)
      replace hM9 : VR w9 w2.heap.size (mkL ⟨q.ch, z, q.st, q.sm, q.le⟩) := hM9
      have hX9 := hX8.grown hb0 hg9 (fun k hk => by simp only [Option.some.injEq] at hk; omega)
      have hs9 := hg9.size
      have hV9 := ((hV6.ext hE7).drawn hD8 (by omega)).grown hg9 (fun e => by simp only [Option.some.injEq] at e; omega)
      refine RL.nil ?_
      refine Fin.blockNormal ?_
      refine Fin.next ?_
      refine CW.seq ?_
      refine CW.region ?_
      refine RL.y rfl (y_loads ag25 rfl (eqw (hM9)) rfl) ?_
      refine RL.stores ag25 (hV9) rfl rfl rfl rfl (rfl) (fun w20 hV20 hg20 => ?_)
      have hX20 := hX9.grown hb0 hg20 (fun k hk => by simp only [Option.some.injEq] at hk; omega)
      refine RL.nil ?_
      refine Fin.next ?_
      refine CW.ret ?_
      refine Fin.retc rfl ag25 rfl rfl (hV20) ?_
      exact ⟨_, rfl, _, rfl, by unfold smM; simp only; omega, hX20⟩
    · with_reducible first | (replace h1 := deNF h1) | (replace h1 := of_decide_eq_true h1) | (replace h1 := of_decide_eq_false h1) | (replace h1 := deNT h1) | (replace h1 := deNN h1) | (replace h1 := bnT h1) | (replace h1 := bnF h1) | skip
      refine CW.seq ?_
      refine CW.region ?_
      refine RL.y rfl (y_eq rfl rfl) ?_
      refine RL.y rfl (y_asg (v := .bool _) rfl) ?_
      refine RL.nil ?_
      refine Fin.next ?_
      refine CW.cond rfl rfl (fun h2 => ?_) (fun h2 => ?_)
      · with_reducible first | (replace h2 := deNF h2) | (replace h2 := of_decide_eq_true h2) | (replace h2 := of_decide_eq_false h2) | (replace h2 := deNT h2) | (replace h2 := deNN h2) | (replace h2 := bnT h2) | (replace h2 := bnF h2) | skip
        refine CW.region ?_
        refine RL.y rfl (y_mov (by conv => lhs; whnf)) ?_
        refine RL.y rfl (y_fa fa25_1 rfl rfl) ?_
        refine RL.y rfl (y_loadv sc2 (eqw (hM6)) rfl rfl) ?_
        refine RL.y rfl (y_sub rfl rfl (IntWalk.i64_in _ (by omega))) ?_
        refine RL.y rfl (y_fa fa25_1 rfl rfl) ?_
        refine RL.y rfl (y_loadv sc2 (eqw (hM6)) rfl rfl) ?_
        refine RL.lits [.int .i64 (0), .int .i64 (q.dp - 1), .int .i64 (q.dp)] rfl sT29 rfl (by omega) (by simp [Value.oneCell']) rfl (fun vl w7 hl7 hE7 hb7 => ?_)
        have hX7 := hX5.ext hE7
        have hs7 := hE7.size
        refine RL.call rfl (l01Pick_any (xs := [0, q.dp - 1, q.dp]) hX7.1 hl7.sv (by simp) (fun x hx => by have := (hl7.lt x hx).1; omega)) ?_
        rintro r w8 ⟨z, rfl, hz, hD8⟩
        have hzz : -100 ≤ z ∧ z ≤ 100 := by simp only [List.mem_cons, List.not_mem_nil, or_false] at hz; omega
        have hX8 := hX7.trans hD8
        have hs8 := hD8.size
        refine RL.y rfl (y_fa fa25_2 rfl rfl) ?_
        refine RL.storev so2 ((hM6.ext hE7).drawn hD8 (by omega)) (by simp) rfl rfl (rfl) (fun w9 hM9 hg9 => ?_)
        replace hM9 : VR w9 w2.heap.size (mkL ⟨q.ch, q.dp, z, q.sm, q.le⟩) := hM9
        have hX9 := hX8.grown hb0 hg9 (fun k hk => by simp only [Option.some.injEq] at hk; omega)
        have hs9 := hg9.size
        have hV9 := ((hV6.ext hE7).drawn hD8 (by omega)).grown hg9 (fun e => by simp only [Option.some.injEq] at e; omega)
        refine RL.nil ?_
        refine Fin.blockNormal ?_
        refine Fin.next ?_
        refine CW.seq ?_
        refine CW.region ?_
        refine RL.y rfl (y_loads ag25 rfl (eqw (hM9)) rfl) ?_
        refine RL.stores ag25 (hV9) rfl rfl rfl rfl (rfl) (fun w20 hV20 hg20 => ?_)
        have hX20 := hX9.grown hb0 hg20 (fun k hk => by simp only [Option.some.injEq] at hk; omega)
        refine RL.nil ?_
        refine Fin.next ?_
        refine CW.ret ?_
        refine Fin.retc rfl ag25 rfl rfl (hV20) ?_
        exact ⟨_, rfl, _, rfl, by unfold smM; simp only; omega, hX20⟩
      · with_reducible first | (replace h2 := deNF h2) | (replace h2 := of_decide_eq_true h2) | (replace h2 := of_decide_eq_false h2) | (replace h2 := deNT h2) | (replace h2 := deNN h2) | (replace h2 := bnT h2) | (replace h2 := bnF h2) | skip
        refine CW.seq ?_
        refine CW.region ?_
        refine RL.y rfl (y_eq rfl rfl) ?_
        refine RL.y rfl (y_asg (v := .bool _) rfl) ?_
        refine RL.nil ?_
        refine Fin.next ?_
        refine CW.cond rfl rfl (fun h3 => ?_) (fun h3 => ?_)
        · with_reducible first | (replace h3 := deNF h3) | (replace h3 := of_decide_eq_true h3) | (replace h3 := of_decide_eq_false h3) | (replace h3 := deNT h3) | (replace h3 := deNN h3) | (replace h3 := bnT h3) | (replace h3 := bnF h3) | skip
          refine CW.region ?_
          refine RL.y rfl (y_mov (by conv => lhs; whnf)) ?_
          refine RL.y rfl (y_fa fa25_0 rfl rfl) ?_
          refine RL.y rfl (y_loadv sc2 (eqw (hM6)) rfl rfl) ?_
          refine RL.y rfl (y_fa fa25_0 rfl rfl) ?_
          refine RL.y rfl (y_loadv sc2 (eqw (hM6)) rfl rfl) ?_
          refine RL.y rfl (y_add rfl rfl (IntWalk.i64_in _ (by omega))) ?_
          refine RL.lits [.int .i64 (0), .int .i64 (q.ch), .int .i64 (q.ch + 1)] rfl sT29 rfl (by omega) (by simp [Value.oneCell']) rfl (fun vl w7 hl7 hE7 hb7 => ?_)
          have hX7 := hX5.ext hE7
          have hs7 := hE7.size
          refine RL.call rfl (l01Pick_any (xs := [0, q.ch, q.ch + 1]) hX7.1 hl7.sv (by simp) (fun x hx => by have := (hl7.lt x hx).1; omega)) ?_
          rintro r w8 ⟨z, rfl, hz, hD8⟩
          have hzz : -100 ≤ z ∧ z ≤ 100 := by simp only [List.mem_cons, List.not_mem_nil, or_false] at hz; omega
          have hX8 := hX7.trans hD8
          have hs8 := hD8.size
          refine RL.y rfl (y_fa fa25_3 rfl rfl) ?_
          refine RL.storev so2 ((hM6.ext hE7).drawn hD8 (by omega)) (by simp) rfl rfl (rfl) (fun w9 hM9 hg9 => ?_)
          replace hM9 : VR w9 w2.heap.size (mkL ⟨q.ch, q.dp, q.st, z, q.le⟩) := hM9
          have hX9 := hX8.grown hb0 hg9 (fun k hk => by simp only [Option.some.injEq] at hk; omega)
          have hs9 := hg9.size
          have hV9 := ((hV6.ext hE7).drawn hD8 (by omega)).grown hg9 (fun e => by simp only [Option.some.injEq] at e; omega)
          refine RL.nil ?_
          refine Fin.blockNormal ?_
          refine Fin.next ?_
          refine CW.seq ?_
          refine CW.region ?_
          refine RL.y rfl (y_loads ag25 rfl (eqw (hM9)) rfl) ?_
          refine RL.stores ag25 (hV9) rfl rfl rfl rfl (rfl) (fun w20 hV20 hg20 => ?_)
          have hX20 := hX9.grown hb0 hg20 (fun k hk => by simp only [Option.some.injEq] at hk; omega)
          refine RL.nil ?_
          refine Fin.next ?_
          refine CW.ret ?_
          refine Fin.retc rfl ag25 rfl rfl (hV20) ?_
          exact ⟨_, rfl, _, rfl, by unfold smM; simp only; omega, hX20⟩
        · with_reducible first | (replace h3 := deNF h3) | (replace h3 := of_decide_eq_true h3) | (replace h3 := of_decide_eq_false h3) | (replace h3 := deNT h3) | (replace h3 := deNN h3) | (replace h3 := bnT h3) | (replace h3 := bnF h3) | skip
          refine CW.seq ?_
          refine CW.region ?_
          refine RL.y rfl (y_eq rfl rfl) ?_
          refine RL.y rfl (y_asg (v := .bool _) rfl) ?_
          refine RL.nil ?_
          refine Fin.next ?_
          refine CW.cond rfl rfl (fun h4 => ?_) (fun h4 => ?_)
          · with_reducible first | (replace h4 := deNF h4) | (replace h4 := of_decide_eq_true h4) | (replace h4 := of_decide_eq_false h4) | (replace h4 := deNT h4) | (replace h4 := deNN h4) | (replace h4 := bnT h4) | (replace h4 := bnF h4) | skip
            refine CW.region ?_
            refine RL.y rfl (y_mov (by conv => lhs; whnf)) ?_
            refine RL.y rfl (y_fa fa25_0 rfl rfl) ?_
            refine RL.y rfl (y_loadv sc2 (eqw (hM6)) rfl rfl) ?_
            refine RL.y rfl (y_fa fa25_1 rfl rfl) ?_
            refine RL.y rfl (y_loadv sc2 (eqw (hM6)) rfl rfl) ?_
            refine RL.y rfl (y_min rfl rfl) ?_
            refine RL.y rfl (y_fa fa25_0 rfl rfl) ?_
            refine RL.y rfl (y_loadv sc2 (eqw (hM6)) rfl rfl) ?_
            refine RL.y rfl (y_fa fa25_1 rfl rfl) ?_
            refine RL.y rfl (y_loadv sc2 (eqw (hM6)) rfl rfl) ?_
            refine RL.y rfl (y_min rfl rfl) ?_
            refine RL.y rfl (y_add rfl rfl (IntWalk.i64_in _ (by omega))) ?_
            refine RL.lits [.int .i64 (0), .int .i64 (min q.ch q.dp), .int .i64 (min q.ch q.dp + 1)] rfl sT29 rfl (by omega) (by simp [Value.oneCell']) rfl (fun vl w7 hl7 hE7 hb7 => ?_)
            have hX7 := hX5.ext hE7
            have hs7 := hE7.size
            refine RL.call rfl (l01Pick_any (xs := [0, min q.ch q.dp, min q.ch q.dp + 1]) hX7.1 hl7.sv (by simp) (fun x hx => by have := (hl7.lt x hx).1; omega)) ?_
            rintro r w8 ⟨z, rfl, hz, hD8⟩
            have hzz : -100 ≤ z ∧ z ≤ 100 := by simp only [List.mem_cons, List.not_mem_nil, or_false] at hz; omega
            have hX8 := hX7.trans hD8
            have hs8 := hD8.size
            refine RL.y rfl (y_fa fa25_4 rfl rfl) ?_
            refine RL.storev so2 ((hM6.ext hE7).drawn hD8 (by omega)) (by simp) rfl rfl (rfl) (fun w9 hM9 hg9 => ?_)
            replace hM9 : VR w9 w2.heap.size (mkL ⟨q.ch, q.dp, q.st, q.sm, z⟩) := hM9
            have hX9 := hX8.grown hb0 hg9 (fun k hk => by simp only [Option.some.injEq] at hk; omega)
            have hs9 := hg9.size
            have hV9 := ((hV6.ext hE7).drawn hD8 (by omega)).grown hg9 (fun e => by simp only [Option.some.injEq] at e; omega)
            refine RL.nil ?_
            refine Fin.blockNormal ?_
            refine Fin.next ?_
            refine CW.seq ?_
            refine CW.region ?_
            refine RL.y rfl (y_loads ag25 rfl (eqw (hM9)) rfl) ?_
            refine RL.stores ag25 (hV9) rfl rfl rfl rfl (rfl) (fun w20 hV20 hg20 => ?_)
            have hX20 := hX9.grown hb0 hg20 (fun k hk => by simp only [Option.some.injEq] at hk; omega)
            refine RL.nil ?_
            refine Fin.next ?_
            refine CW.ret ?_
            refine Fin.retc rfl ag25 rfl rfl (hV20) ?_
            exact ⟨_, rfl, _, rfl, by unfold smM; simp only; omega, hX20⟩
          · with_reducible first | (replace h4 := deNF h4) | (replace h4 := of_decide_eq_true h4) | (replace h4 := of_decide_eq_false h4) | (replace h4 := deNT h4) | (replace h4 := deNN h4) | (replace h4 := bnT h4) | (replace h4 := bnF h4) | skip
            refine CW.seq ?_
            refine CW.region ?_
            refine RL.y rfl (y_eq rfl rfl) ?_
            refine RL.y rfl (y_asg (v := .bool _) rfl) ?_
            refine RL.nil ?_
            refine Fin.next ?_
            refine CW.cond rfl rfl (fun h5 => ?_) (fun h5 => ?_)
            · with_reducible first | (replace h5 := deNF h5) | (replace h5 := of_decide_eq_true h5) | (replace h5 := of_decide_eq_false h5) | (replace h5 := deNT h5) | (replace h5 := deNN h5) | (replace h5 := bnT h5) | (replace h5 := bnF h5) | skip
              refine CW.seq ?_
              refine CW.region ?_
              refine RL.y rfl (y_mov (by conv => lhs; whnf)) ?_
              refine RL.call rfl (l01Next_any hX5.1 (by omega)) ?_
              rintro r w10 ⟨x10, rfl, ⟨p10, q10, -⟩, hD10⟩
              replace q10 := q10 (by omega)
              have hX10 := hX5.trans hD10
              have hs10 := hD10.size
              refine RL.y rfl (y_add rfl rfl (IntWalk.i64_in _ (by omega))) ?_
              refine RL.y rfl (y_mov (by conv => lhs; whnf)) ?_
              refine RL.call rfl (l01Next_any hX10.1 (by omega)) ?_
              rintro r w11 ⟨x11, rfl, ⟨p11, q11, -⟩, hD11⟩
              replace q11 := q11 (by omega)
              have hX11 := hX10.trans hD11
              have hs11 := hD11.size
              refine RL.y rfl (y_add rfl rfl (IntWalk.i64_in _ (by omega))) ?_
              refine RL.y rfl (y_build bd25 rfl (fill_one rfl rfl rfl (fill_one rfl rfl rfl (fill_one rfl rfl rfl (fill_one rfl rfl rfl (fill_one rfl rfl rfl fill_nil)))))) ?_
              refine RL.stores ag25 ((hV6.drawn hD10 (by omega)).drawn hD11 (by omega)) rfl rfl rfl rfl (rfl) (fun w12 hV12 hg12 => ?_)
              have hX12 := hX11.grown hb0 hg12 (fun k hk => by simp only [Option.some.injEq] at hk; omega)
              refine RL.nil ?_
              refine Fin.next ?_
              refine CW.ret ?_
              refine Fin.blockRet ?_
              refine Fin.thenRet ?_
              refine Fin.retc rfl ag25 rfl rfl (hV12) ?_
              exact ⟨_, rfl, ⟨6, 4 + x10, 2 + x11, 2, 3⟩, rfl, by unfold smM; simp only; omega, hX12⟩
            · with_reducible first | (replace h5 := deNF h5) | (replace h5 := of_decide_eq_true h5) | (replace h5 := of_decide_eq_false h5) | (replace h5 := deNT h5) | (replace h5 := deNN h5) | (replace h5 := bnT h5) | (replace h5 := bnF h5) | skip
              refine CW.skip ?_
              refine Fin.blockNormal ?_
              refine Fin.next ?_
              refine CW.seq ?_
              refine CW.region ?_
              refine RL.y rfl (y_loads ag25 rfl (eqw (hM6)) rfl) ?_
              refine RL.stores ag25 (hV6) rfl rfl rfl rfl (rfl) (fun w20 hV20 hg20 => ?_)
              have hX20 := hX5.grown hb0 hg20 (fun k hk => by simp only [Option.some.injEq] at hk; omega)
              refine RL.nil ?_
              refine Fin.next ?_
              refine CW.ret ?_
              refine Fin.retc rfl ag25 rfl rfl (hV20) ?_
              exact ⟨_, rfl, _, rfl, hsm, hX20⟩

theorem l02DrawCuts_any {w : World} {b : Nat} {q : Mk} (hs : Src w b) (hq : smM q) :
    Does Try.prog 111 #[.pointer (some ⟨b, 0, none⟩), mkA q] w (fun v' w' => ∃ xs, OV w' w.heap.size 2 v' (ints xs) ∧ xs.length ≤ 9 ∧ Drawn w b w') := by
  have hb0 := hs.lt
  obtain ⟨m1, m2, m3, m4, m5⟩ := hq
  refine enter Try.func111 rfl 53 Try.ntmps111 rfl (by kernel_rfl) ?_
  refine CW.seq ?_
  refine CW.region ?_
  refine RL.box (cs := mkL q) rfl rfl rfl (fun w1 hM hE1 => ?_)
  have hl1 := hM.lt
  have hX1 := (Drawn.refl hs).ext hE1
  refine RL.y rfl (y_asg rfl) ?_
  refine RL.nil ?_
  refine Fin.next ?_
  refine CW.seq ?_
  refine CW.region ?_
  refine RL.lit0 rfl sT29 (fun vo w2 ho2 hE2 hb2 => ?_)
  have hX2 := (Drawn.refl hX1.1).ext hE2
  have hs2 := hE2.size
  refine RL.y rfl (y_asg (by conv => lhs; whnf)) ?_
  refine RL.nil ?_
  refine Fin.next ?_
  refine CW.seq ?_
  refine CW.region ?_
  refine RL.y rfl (y_mov (by conv => lhs; whnf)) ?_
  refine RL.y rfl (y_fa fa25_1 rfl rfl) ?_
  refine RL.y rfl (y_loadv sc2 (eqw (hM.ext hE2)) rfl rfl) ?_
  refine RL.y rfl (y_max rfl rfl) ?_
  refine RL.call rfl (l01Next_any hX2.1 (by omega)) ?_
  rintro r w3 ⟨x3, rfl, ⟨p3, q3, -⟩, hD3⟩
  replace q3 := q3 (by omega)
  have hX3 := hX2.trans hD3
  have hs3 := hD3.size
  refine RL.y rfl (y_asg (v := .int _ _) rfl) ?_
  refine RL.nil ?_
  refine Fin.next ?_
  refine CW.seq ?_
  refine CW.seq ?_
  refine CW.region ?_
  refine RL.y rfl (y_asg rfl) ?_
  refine RL.nil ?_
  refine Fin.next ?_
  refine CW.block ?_
  refine CW.loop (fun m E w' => ∃ (i : Nat) (vo : Value) (xs : List Int) (c : Int), m = 8 - i ∧ i ≤ 8 ∧ agrees E [(0, .pointer (some ⟨b, 0, none⟩)), (3, .pointer (some ⟨w.heap.size, 0, none⟩)), (5, vo), (6, .int .i64 c), (7, .int .i64 (i : Int))] ∧ OV w' w1.heap.size 2 vo (ints xs) ∧ xs.length = i ∧ (-(200 + 400 * (i : Int)) ≤ c ∧ c ≤ 200 + 400 * (i : Int)) ∧ Drawn w1 b w') _ (⟨0, vo, [], x3, rfl, Nat.zero_le _, ⟨rfl, rfl, rfl, rfl, rfl, trivial⟩, ho2.drawn hD3 (by omega), rfl, by omega, hX3⟩) ?_
  · rintro m E w4 ⟨i, vo, xs, c, rfl, hi, hag, ho4, hxl, hc4, hX4⟩
    refine CW.re _ hag rfl ?_
    have hs4 := hX4.size
    refine CW.seq ?_
    refine CW.seq ?_
    refine CW.region ?_
    refine RL.y rfl (y_mov (v := .int _ _) rfl) ?_
    refine RL.y rfl (y_fa fa25_0 rfl rfl) ?_
    refine RL.y rfl (y_loadv sc2 (eqw (hM.drawn hX4 (by omega))) rfl rfl) ?_
    refine RL.y rfl (y_min rfl rfl) ?_
    refine RL.y rfl (y_lt rfl rfl) ?_
    refine RL.nil ?_
    refine Fin.next ?_
    refine CW.cond rfl rfl (fun hci => ?_) (fun hci => ?_)
    · with_reducible first | (replace hci := deNF hci) | (replace hci := of_decide_eq_true hci) | (replace hci := of_decide_eq_false hci) | (replace hci := deNT hci) | (replace hci := deNN hci) | (replace hci := bnT hci) | (replace hci := bnF hci) | skip
      refine CW.skip ?_
      refine Fin.next ?_
      refine CW.seq ?_
      refine CW.block ?_
      refine CW.seq ?_
      refine CW.region ?_
      refine RL.y rfl (y_mov (by conv => lhs; whnf)) ?_
      refine RL.y rfl (y_mov (v := .int _ _) rfl) ?_
      refine RL.app1i rfl rfl sT29 (by omega) ho4 (by omega) (by omega) rfl (fun _ => rfl) (fun u v5 w5 ho5 hg5 hn5 => ?_)
      have hX5 := hX4.grown (by omega) hg5 (fun k hk => (ho4.lt k hk).1)
      have hs5 := hg5.size
      have hX5d := hX5.ext (Ext.drew w5)
      have hM5 := hM.drawn hX5 (by omega)
      have ho5d := ho5.ext (Ext.drew w5)
      refine RL.y rfl (y_asg (by conv => lhs; whnf)) ?_
      refine RL.nil ?_
      refine Fin.next ?_
      refine CW.seq ?_
      refine CW.tape (fun w' => VR w' w.heap.size (mkL q)) [12, 11, 8, 7] mixed (by kernel_rfl) (by kernel_rfl) ((hM5.ext (Ext.drew w5))) ?_
      refine TL.y rfl rfl (y_mov (v := .int _ _) rfl) ?_
      refine TL.y rfl rfl (y_mov (by conv => lhs; whnf)) ?_
      refine TL.y rfl rfl (y_fa fa25_2 rfl rfl) ?_
      refine TL.y rfl rfl (y_loadv sc2 (fun _ hC => hC) rfl rfl) ?_
      refine TL.y rfl rfl (y_max rfl rfl) ?_
      refine TL.y rfl rfl (y_mul rfl rfl (IntWalk.i64_in _ (by omega))) ?_
      refine TL.y rfl rfl (y_add rfl rfl (IntWalk.i64_in _ (by omega))) ?_
      refine TL.op rfl (fun hC => ?_)
      refine RL.call rfl (l01Next_any hX5d.1 (by omega)) ?_
      rintro r w6 ⟨x6, rfl, ⟨p6, q6, -⟩, hD6⟩
      replace q6 := q6 (by omega)
      have hX6 := hX5d.trans hD6
      have hs6 := hD6.size
      have hM6 := hM.drawn hX6 (by omega)
      refine RL.nil ?_
      refine Fin.tl (hM6) ?_
      refine TL.yc rfl rfl (y_add rfl rfl (IntWalk.i64_in _ (by omega))) ?_
      refine TL.y rfl rfl (y_fa fa25_2 rfl rfl) ?_
      refine TL.y rfl rfl (y_loadv sc2 (fun _ hC => hC) rfl rfl) ?_
      refine TL.yc rfl rfl (y_sub rfl rfl (IntWalk.i64_in _ (by omega))) ?_
      refine TL.yc rfl rfl (y_asg (v := .int _ _) rfl) ?_
      refine TL.nil (fun hC => ?_)
      refine Fin.next ?_
      refine CW.seq ?_
      refine CW.region ?_
      refine RL.y rfl (y_mov (by conv => lhs; whnf)) ?_
      refine RL.call rfl (l01Next_any hX6.1 (by omega)) ?_
      rintro r w7 ⟨x7, rfl, -, hD7⟩
      have hX7 := hX6.trans hD7
      have hs7 := hD7.size
      have ho7 := (ho5d.drawn hD6 (by omega)).drawn hD7 (by omega)
      refine RL.y rfl (y_gt rfl rfl) ?_
      refine RL.nil ?_
      refine Fin.next ?_
      refine CW.cond rfl rfl (fun h8 => ?_) (fun h8 => ?_)
      · with_reducible first | (replace h8 := deNF h8) | (replace h8 := of_decide_eq_true h8) | (replace h8 := of_decide_eq_false h8) | (replace h8 := deNT h8) | (replace h8 := deNN h8) | (replace h8 := bnT h8) | (replace h8 := bnF h8) | skip
        refine CW.region ?_
        refine RL.y rfl (y_fa fa25_1 rfl rfl) ?_
        refine RL.y rfl (y_loadv sc2 (eqw (hM.drawn hX7 (by omega))) rfl rfl) ?_
        refine RL.y rfl (y_sub rfl rfl (IntWalk.i64_in _ (by omega))) ?_
        refine RL.y rfl (y_mov (v := .int _ _) rfl) ?_
        refine RL.y rfl (y_min rfl rfl) ?_
        refine RL.y rfl (y_max rfl rfl) ?_
        refine RL.y rfl (y_asg (v := .int _ _) rfl) ?_
        refine RL.nil ?_
        refine Fin.blockNormal ?_
        refine Fin.next ?_
        refine CW.region ?_
        refine RL.y rfl (y_mov (v := .int _ _) rfl) ?_
        refine RL.y rfl (y_add rfl rfl (IntWalk.i64_in _ (by omega))) ?_
        refine RL.y rfl (y_asg (v := .int _ _) rfl) ?_
        refine RL.nil ?_
        refine Fin.le ?_
        exact ⟨8 - (i + 1), by omega, i + 1, v5, _, _, rfl, by omega, ⟨rfl, rfl, rfl, rfl, rfl, trivial⟩, ho7, by simp [hxl], by omega, hX7⟩
      · with_reducible first | (replace h8 := deNF h8) | (replace h8 := of_decide_eq_true h8) | (replace h8 := of_decide_eq_false h8) | (replace h8 := deNT h8) | (replace h8 := deNN h8) | (replace h8 := bnT h8) | (replace h8 := bnF h8) | skip
        refine CW.skip ?_
        refine Fin.blockNormal ?_
        refine Fin.next ?_
        refine CW.region ?_
        refine RL.y rfl (y_mov (v := .int _ _) rfl) ?_
        refine RL.y rfl (y_add rfl rfl (IntWalk.i64_in _ (by omega))) ?_
        refine RL.y rfl (y_asg (v := .int _ _) rfl) ?_
        refine RL.nil ?_
        refine Fin.le ?_
        exact ⟨8 - (i + 1), by omega, i + 1, v5, _, _, rfl, by omega, ⟨rfl, rfl, rfl, rfl, rfl, trivial⟩, ho7, by simp [hxl], by omega, hX7⟩
    · with_reducible first | (replace hci := deNF hci) | (replace hci := of_decide_eq_true hci) | (replace hci := of_decide_eq_false hci) | (replace hci := deNT hci) | (replace hci := deNN hci) | (replace hci := bnT hci) | (replace hci := bnF hci) | skip
      refine CW.exit ?_
      refine Fin.thenExit ?_
      refine Fin.thenExit ?_
      refine Fin.blockHit ?_
      refine Fin.next ?_
      refine CW.seq ?_
      refine CW.seq ?_
      refine CW.region ?_
      refine RL.y rfl (y_mov (by conv => lhs; whnf)) ?_
      refine RL.call rfl (l01Next_any hX4.1 (by omega)) ?_
      rintro r w5 ⟨x5, rfl, -, hD5⟩
      have hX5 := hX4.trans hD5
      have hs5 := hD5.size
      have ho5 := ho4.drawn hD5 (by omega)
      have hE01 := hE1.size
      refine RL.y rfl (y_eq rfl rfl) ?_
      refine RL.nil ?_
      refine Fin.next ?_
      refine CW.cond rfl rfl (fun h9 => ?_) (fun h9 => ?_)
      · with_reducible first | (replace h9 := deNF h9) | (replace h9 := of_decide_eq_true h9) | (replace h9 := of_decide_eq_false h9) | (replace h9 := deNT h9) | (replace h9 := deNN h9) | (replace h9 := bnT h9) | (replace h9 := bnF h9) | skip
        refine CW.region ?_
        refine RL.y rfl (y_mov (by conv => lhs; whnf)) ?_
        refine RL.app1i rfl rfl sT29 (by omega) ho5 (by omega) (by omega) rfl (fun _ => rfl) (fun u v6 w6 ho6 hg6 hn6 => ?_)
        refine RL.y rfl (y_asg (by conv => lhs; whnf)) ?_
        refine RL.nil ?_
        refine Fin.next ?_
        refine CW.seq ?_
        refine CW.region ?_
        refine RL.y rfl (y_mov (by conv => lhs; whnf)) ?_
        refine RL.y rfl (y_asg (by conv => lhs; whnf)) ?_
        refine RL.nil ?_
        refine Fin.next ?_
        refine CW.ret ?_
        refine Fin.ret1 rfl (by conv => lhs; whnf) ?_
        exact ⟨_, rfl, _, ho6.mono (by omega), by simp; omega, hX1.trans (hX5.grown (by omega) hg6 (fun k hk => (ho5.lt k hk).1))⟩
      · with_reducible first | (replace h9 := deNF h9) | (replace h9 := of_decide_eq_true h9) | (replace h9 := of_decide_eq_false h9) | (replace h9 := deNT h9) | (replace h9 := deNN h9) | (replace h9 := bnT h9) | (replace h9 := bnF h9) | skip
        refine CW.skip ?_
        refine Fin.next ?_
        refine CW.seq ?_
        refine CW.region ?_
        refine RL.y rfl (y_mov (by conv => lhs; whnf)) ?_
        refine RL.y rfl (y_asg (by conv => lhs; whnf)) ?_
        refine RL.nil ?_
        refine Fin.next ?_
        refine CW.ret ?_
        refine Fin.ret1 rfl (by conv => lhs; whnf) ?_
        exact ⟨_, rfl, _, ho5.mono (by omega), by omega, hX1.trans hX5⟩

theorem l02Some_any {w : World} {b : Nat} {q : Mk} (hs : Src w b) (hm : mkOk q) :
    Does Try.prog 112 #[.pointer (some ⟨b, 0, none⟩), mkA q] w (fun v' w' => ∃ xs, SI w' v' xs ∧ InB w.heap.size w'.heap.size v' ∧ (xs.length : Int) = q.ch ∧ Drawn w b w') := by
  have hb0 := hs.lt
  have m1 := hm.1
  have m2 := hm.2.1
  refine enter Try.func112 rfl 37 Try.ntmps112 rfl (by kernel_rfl) ?_
  refine CW.seq ?_
  refine CW.region ?_
  refine RL.box (cs := mkL q) rfl rfl rfl (fun w1 hM hE1 => ?_)
  have hl1 := hM.lt
  have hX1 := (Drawn.refl hs).ext hE1
  refine RL.y rfl (y_asg rfl) ?_
  refine RL.nil ?_
  refine Fin.next ?_
  refine CW.seq ?_
  refine CW.region ?_
  refine RL.lit0 rfl sT29 (fun vo w2 ho2 hE2 hb2 => ?_)
  have hX2 := (Drawn.refl hX1.1).ext hE2
  refine RL.y rfl (y_asg (by conv => lhs; whnf)) ?_
  refine RL.nil ?_
  refine Fin.next ?_
  refine CW.seq ?_
  refine CW.seq ?_
  refine CW.region ?_
  refine RL.y rfl (y_asg rfl) ?_
  refine RL.nil ?_
  refine Fin.next ?_
  refine CW.block ?_
  refine CW.loop (fun m E w' => ∃ (i : Nat) (vo : Value) (xs : List Int), m = q.ch.toNat - i ∧ i ≤ q.ch.toNat ∧ agrees E [(0, .pointer (some ⟨b, 0, none⟩)), (3, .pointer (some ⟨w.heap.size, 0, none⟩)), (5, vo), (6, .int .i64 (i : Int))] ∧ OV w' w1.heap.size 2 vo (ints xs) ∧ xs.length = i ∧ cuts q xs ∧ Drawn w1 b w') _ (⟨0, vo, [], rfl, Nat.zero_le _, ⟨rfl, rfl, rfl, rfl, trivial⟩, ho2, rfl, (fun x hx => by simp at hx), hX2⟩) ?_
  · rintro m E w4 ⟨i, vo, xs, rfl, hi, hag, ho4, hxl, hxc, hX4⟩
    refine CW.re _ hag rfl ?_
    have hs4 := hX4.size
    refine CW.seq ?_
    refine CW.seq ?_
    refine CW.region ?_
    refine RL.y rfl (y_mov (v := .int _ _) rfl) ?_
    refine RL.y rfl (y_fa fa25_0 rfl rfl) ?_
    refine RL.y rfl (y_loadv sc2 (eqw (hM.drawn hX4 (by omega))) rfl rfl) ?_
    refine RL.y rfl (y_lt rfl rfl) ?_
    refine RL.nil ?_
    refine Fin.next ?_
    refine CW.cond rfl rfl (fun hci => ?_) (fun hci => ?_)
    · with_reducible first | (replace hci := deNF hci) | (replace hci := of_decide_eq_true hci) | (replace hci := of_decide_eq_false hci) | (replace hci := deNT hci) | (replace hci := deNN hci) | (replace hci := bnT hci) | (replace hci := bnF hci) | skip
      refine CW.skip ?_
      refine Fin.next ?_
      refine CW.seq ?_
      refine CW.block ?_
      refine CW.region ?_
      refine RL.y rfl (y_mov (by conv => lhs; whnf)) ?_
      refine RL.y rfl (y_mov (by conv => lhs; whnf)) ?_
      refine RL.y rfl (y_fa fa25_1 rfl rfl) ?_
      refine RL.y rfl (y_loadv sc2 (eqw (hM.drawn hX4 (by omega))) rfl rfl) ?_
      refine RL.call rfl (l01Next_any hX4.1 (by omega)) ?_
      rintro r w5 ⟨x5, rfl, ⟨p5, q5, -⟩, hD5⟩
      replace q5 := q5 (by omega)
      have hX5 := hX4.trans hD5
      have hs5 := hD5.size
      have ho5 := ho4.drawn hD5 (by omega)
      refine RL.app1i rfl rfl sT29 (by omega) ho5 (by omega) (by omega) rfl (fun _ => rfl) (fun u v6 w6 ho6 hg6 hn6 => ?_)
      refine RL.y rfl (y_asg (by conv => lhs; whnf)) ?_
      refine RL.nil ?_
      refine Fin.blockNormal ?_
      refine Fin.next ?_
      refine CW.region ?_
      refine RL.y rfl (y_mov (v := .int _ _) rfl) ?_
      refine RL.y rfl (y_add rfl rfl (IntWalk.i64_in _ (by omega))) ?_
      refine RL.y rfl (y_asg (v := .int _ _) rfl) ?_
      refine RL.nil ?_
      refine Fin.le ?_
      exact ⟨q.ch.toNat - (i + 1), by omega, i + 1, v6, _, rfl, by omega, ⟨rfl, rfl, rfl, rfl, trivial⟩, ho6, by simp [hxl], cuts_snoc hxc (by omega), hX5.grown (by omega) hg6 (fun k hk => (ho5.lt k hk).1)⟩
    · with_reducible first | (replace hci := deNF hci) | (replace hci := of_decide_eq_true hci) | (replace hci := of_decide_eq_false hci) | (replace hci := deNT hci) | (replace hci := deNN hci) | (replace hci := bnT hci) | (replace hci := bnF hci) | skip
      obtain rfl : i = q.ch.toNat := by omega
      have hE01 := hE1.size
      refine CW.exit ?_
      refine Fin.thenExit ?_
      refine Fin.thenExit ?_
      refine Fin.blockHit ?_
      refine Fin.next ?_
      refine CW.seq ?_
      refine CW.region ?_
      refine RL.y rfl (y_loads ag25 rfl (eqw (hM.drawn hX4 (by omega))) rfl) ?_
      refine RL.y rfl (y_mov (by conv => lhs; whnf)) ?_
      refine RL.call rfl (l02Next_any hm hxc ho4.sv (by omega)) ?_
      rintro r w5 ⟨v5, b5, ys, rfl, hs5, hi5, hh5, hE5⟩
      have hX5 := hX4.ext hE5
      have hs55 := hE5.size
      refine RL.y rfl (y_mov (by conv => lhs; whnf)) ?_
      refine RL.y rfl (y_ext0 rfl) ?_
      refine RL.y rfl (y_ext1 rfl) ?_
      refine RL.y rfl (y_asg (by conv => lhs; whnf)) ?_
      refine RL.y rfl (y_asg (v := .bool _) rfl) ?_
      refine RL.nil ?_
      refine Fin.next ?_
      refine CW.seq ?_
      refine CW.seq ?_
      refine CW.region ?_
      refine RL.y rfl (y_mov (v := .bool _) rfl) ?_
      refine RL.y rfl (y_not rfl) ?_
      refine RL.nil ?_
      refine Fin.next ?_
      refine CW.cond rfl rfl (fun h7 => ?_) (fun h7 => ?_)
      · with_reducible first | (replace h7 := deNF h7) | (replace h7 := of_decide_eq_true h7) | (replace h7 := of_decide_eq_false h7) | (replace h7 := deNT h7) | (replace h7 := deNN h7) | (replace h7 := bnT h7) | (replace h7 := bnF h7) | skip
        subst h7
        refine CW.region ?_
        refine RL.y rfl (y_loads ag25 rfl (eqw (hM.drawn hX5 (by omega))) rfl) ?_
        refine RL.call rfl (l02First_any hm q.ch.toNat w5 (.slice none 0 0) [] w5.heap.size (fun x hx => by simp at hx) (SV.nil _) inb_nil (Nat.le_refl _) (by simp; omega)) ?_
        rintro r w6 ⟨v6, b6, zs, rfl, hs6, hi6, hh6, hE6⟩
        have hzl : zs.length = q.ch.toNat := by rcases hh6 with h | h; (have := (keysF_pre _ _ _ (mem_of_head h.2)).1; simpa using this); exact absurd h.2.1 (keysF_ne hm)
        refine RL.y rfl (y_mov (by conv => lhs; whnf)) ?_
        refine RL.y rfl (y_ext0 rfl) ?_
        refine RL.y rfl (y_ext1 rfl) ?_
        refine RL.y rfl (y_asg (by conv => lhs; whnf)) ?_
        refine RL.nil ?_
        refine Fin.next ?_
        refine CW.seq ?_
        refine CW.region ?_
        refine RL.y rfl (y_mov (by conv => lhs; whnf)) ?_
        refine RL.y rfl (y_asg (by conv => lhs; whnf)) ?_
        refine RL.nil ?_
        refine Fin.next ?_
        refine CW.ret ?_
        refine Fin.ret1 rfl (by conv => lhs; whnf) ?_
        exact ⟨_, rfl, zs, hs6, (fun k hk => by have := hi6 k hk; omega), by omega, hX1.trans (hX5.ext hE6)⟩
      · with_reducible first | (replace h7 := deNF h7) | (replace h7 := of_decide_eq_true h7) | (replace h7 := of_decide_eq_false h7) | (replace h7 := deNT h7) | (replace h7 := deNN h7) | (replace h7 := bnT h7) | (replace h7 := bnF h7) | skip
        have hyl : ys.length = q.ch.toNat := by rcases hh5 with h | h; (have := aft_len _ _ _ _ (mem_of_head h.2); simp at this; omega); (rw [h.1] at h7; cases h7)
        refine CW.skip ?_
        refine Fin.next ?_
        refine CW.seq ?_
        refine CW.region ?_
        refine RL.y rfl (y_mov (by conv => lhs; whnf)) ?_
        refine RL.y rfl (y_asg (by conv => lhs; whnf)) ?_
        refine RL.nil ?_
        refine Fin.next ?_
        refine CW.ret ?_
        refine Fin.ret1 rfl (by conv => lhs; whnf) ?_
        exact ⟨_, rfl, ys, hs5, (fun k hk => by have := hi5 k hk; omega), by omega, hX1.trans hX5⟩

theorem l02DrawKey_any {w : World} {b : Nat} {q : Mk} (hs : Src w b) (hq : smM q) :
    Does Try.prog 85 #[.pointer (some ⟨b, 0, none⟩), mkA q] w (fun v' w' => ∃ xs, SI w' v' xs ∧ InB w.heap.size w'.heap.size v' ∧ xs.length ≤ 9 ∧ Drawn w b w') := by
  have hb0 := hs.lt
  refine enter Try.func85 rfl 21 Try.ntmps85 rfl (by kernel_rfl) ?_
  refine CW.seq ?_
  refine CW.region ?_
  refine RL.box (cs := mkL q) rfl rfl rfl (fun w1 hM hE1 => ?_)
  have hl1 := hM.lt
  have hE01 := hE1.size
  have hX1 := (Drawn.refl hs).ext hE1
  refine RL.y rfl (y_asg rfl) ?_
  refine RL.nil ?_
  refine Fin.next ?_
  refine CW.seq ?_
  refine CW.region ?_
  refine RL.y rfl (y_mov (by conv => lhs; whnf)) ?_
  refine RL.y rfl (y_loads ag25 rfl (eqw (hM)) rfl) ?_
  refine RL.call rfl (l02DrawCuts_any hX1.1 hq) ?_
  rintro v2 w2 ⟨xs, ho2, hxl, hD2⟩
  have hX2 := hX1.trans hD2
  have hs2 := hD2.size
  have hM2 := hM.drawn hD2 (by omega)
  refine RL.y rfl (y_asg (by conv => lhs; whnf)) ?_
  refine RL.nil ?_
  refine Fin.next ?_
  refine CW.seq ?_
  refine CW.seq ?_
  refine CW.region ?_
  refine RL.y rfl (y_loads ag25 rfl (eqw (hM2)) rfl) ?_
  refine RL.call rfl (specIsMaker_any) ?_
  rintro r w3 ⟨rfl, hE3⟩
  have hX3 := hX2.ext hE3
  have hs3 := hE3.size
  refine RL.y rfl (y_not rfl) ?_
  refine RL.y rfl (y_mov (v := .bool _) rfl) ?_
  refine RL.split (t := 12) rfl rfl (fun h1 => ?_) (fun h1 => ?_)
  · with_reducible first | (replace h1 := deNF h1) | (replace h1 := of_decide_eq_true h1) | (replace h1 := of_decide_eq_false h1) | (replace h1 := deNT h1) | (replace h1 := deNN h1) | (replace h1 := bnT h1) | (replace h1 := bnF h1) | skip
    refine RL.pass (t := 12) rfl rfl rfl rfl ?_
    refine RL.pass (t := 12) rfl rfl rfl rfl ?_
    refine RL.pass (t := 12) rfl rfl rfl rfl ?_
    refine RL.y rfl (y_pickT (v := .bool _) rfl rfl) ?_
    refine RL.nil ?_
    refine Fin.next ?_
    refine CW.condT rfl rfl ?_
    refine CW.seq ?_
    refine CW.region ?_
    refine RL.y rfl (y_mov (by conv => lhs; whnf)) ?_
    refine RL.y rfl (y_asg (by conv => lhs; whnf)) ?_
    refine RL.nil ?_
    refine Fin.next ?_
    refine CW.ret ?_
    refine Fin.thenRet ?_
    refine Fin.ret1 rfl (by conv => lhs; whnf) ?_
    exact ⟨_, rfl, xs, (ho2.ext hE3).sv, (fun k hk => by have := (ho2.ext hE3).lt k hk; omega), hxl, hX3⟩
  · with_reducible first | (replace h1 := deNF h1) | (replace h1 := of_decide_eq_true h1) | (replace h1 := of_decide_eq_false h1) | (replace h1 := deNT h1) | (replace h1 := deNN h1) | (replace h1 := bnT h1) | (replace h1 := bnF h1) | skip
    refine RL.take (t := 12) rfl rfl rfl ?_
    refine RL.y rfl (y_mov (by conv => lhs; whnf)) ?_
    refine RL.take (t := 12) rfl rfl rfl ?_
    refine RL.call rfl (l01Next_any hX3.1 (by omega)) ?_
    rintro r w4 ⟨x4, rfl, -, hD4⟩
    have hX4 := hX3.trans hD4
    have hs4 := hD4.size
    have ho4 := (ho2.ext hE3).drawn hD4 (by omega)
    refine RL.take (t := 12) rfl rfl rfl ?_
    refine RL.y rfl (y_eq rfl rfl) ?_
    refine RL.y rfl (y_pickF (v := .bool _) rfl rfl) ?_
    refine RL.nil ?_
    refine Fin.next ?_
    refine CW.cond rfl rfl (fun h2 => ?_) (fun h2 => ?_)
    · with_reducible first | (replace h2 := deNF h2) | (replace h2 := of_decide_eq_true h2) | (replace h2 := of_decide_eq_false h2) | (replace h2 := deNT h2) | (replace h2 := deNN h2) | (replace h2 := bnT h2) | (replace h2 := bnF h2) | skip
      refine CW.seq ?_
      refine CW.region ?_
      refine RL.y rfl (y_mov (by conv => lhs; whnf)) ?_
      refine RL.y rfl (y_asg (by conv => lhs; whnf)) ?_
      refine RL.nil ?_
      refine Fin.next ?_
      refine CW.ret ?_
      refine Fin.thenRet ?_
      refine Fin.ret1 rfl (by conv => lhs; whnf) ?_
      exact ⟨_, rfl, xs, ho4.sv, (fun k hk => by have := ho4.lt k hk; omega), hxl, hX4⟩
    · with_reducible first | (replace h2 := deNF h2) | (replace h2 := of_decide_eq_true h2) | (replace h2 := of_decide_eq_false h2) | (replace h2 := deNT h2) | (replace h2 := deNN h2) | (replace h2 := bnT h2) | (replace h2 := bnF h2) | skip
      refine CW.skip ?_
      refine Fin.next ?_
      refine CW.seq ?_
      refine CW.region ?_
      refine RL.y rfl (y_mov (by conv => lhs; whnf)) ?_
      refine RL.y rfl (y_loads ag25 rfl (eqw ((hM2.ext hE3).drawn hD4 (by omega))) rfl) ?_
      refine RL.call rfl (l02Some_any hX4.1 h1) ?_
      rintro v5 w5 ⟨ys, hs5, hi5, hyl, hD5⟩
      have m1 := h1.1
      refine RL.y rfl (y_asg (by conv => lhs; whnf)) ?_
      refine RL.nil ?_
      refine Fin.next ?_
      refine CW.ret ?_
      refine Fin.ret1 rfl (by conv => lhs; whnf) ?_
      exact ⟨_, rfl, ys, hs5, (fun k hk => by have := hi5 k hk; omega), by omega, hX4.trans hD5⟩

theorem l04Valid_any {w : World} {b : Nat} {q : Mk} (hs : Src w b) (hm : mkOk q) :
    Does Try.prog 91 #[.pointer (some ⟨b, 0, none⟩), mkA q] w (fun v' w' => ∃ ss, OwL w' w.heap.size w'.heap.size v' ss ∧ (ss.length : Int) = q.ch ∧ Drawn w b w') := by
  have hb0 := hs.lt
  have m1 := hm.1
  refine enter Try.func91 rfl 24 Try.ntmps91 rfl (by kernel_rfl) ?_
  refine CW.seq ?_
  refine CW.region ?_
  refine RL.box (cs := mkL q) rfl rfl rfl (fun w1 hM hE1 => ?_)
  refine RL.alloc rfl ze28 (fun w2 hV hE2 => ?_)
  have hl1 := hM.lt
  have hl2 := hV.lt
  have hX2 := (Drawn.refl hs).ext (hE1.trans hE2)
  refine RL.nil ?_
  refine Fin.next ?_
  refine CW.seq ?_
  refine CW.region ?_
  refine RL.lit0 rfl sT26 (fun vo w3 ho3 hE3 hb3 => ?_)
  have hX3 := (Drawn.refl hX2.1).ext hE3
  have hs3 := hE3.size
  refine RL.y rfl (y_asg (by conv => lhs; whnf)) ?_
  refine RL.nil ?_
  refine Fin.next ?_
  refine CW.seq ?_
  refine CW.seq ?_
  refine CW.region ?_
  refine RL.y rfl (y_mov (by conv => lhs; whnf)) ?_
  refine RL.call rfl (l01Next_any hX3.1 (by omega)) ?_
  rintro r w4 ⟨x4, rfl, ⟨p4, q4, -⟩, hD4⟩
  replace q4 := q4 (by omega)
  have hX4 := hX3.trans hD4
  refine RL.y rfl (y_add rfl rfl (IntWalk.i64_in _ (by omega))) ?_
  refine RL.y rfl (y_asg (v := .int _ _) rfl) ?_
  refine RL.nil ?_
  refine Fin.next ?_
  refine CW.block ?_
  refine CW.loop (fun m E w' => ∃ (k : Nat) (vo : Value) (cv : List Value) (rs : List (List Int)), m = k ∧ rs.length + k ≤ 3 ∧ agrees E [(0, .pointer (some ⟨b, 0, none⟩)), (3, .pointer (some ⟨w.heap.size, 0, none⟩)), (4, .pointer (some ⟨w1.heap.size, 0, none⟩)), (5, vo), (6, .int .i64 (k : Int))] ∧ OwX 29 w' w2.heap.size w2.heap.size vo cv rs ∧ (∀ r ∈ rs, (r.length : Int) = q.ch) ∧ Drawn w2 b w') _ (⟨(1 + x4).toNat, vo, [], [], rfl, by simp; omega, ⟨rfl, rfl, rfl, rfl, congrArg (Value.int .i64) (show 1 + x4 = (((1 + x4).toNat : Nat) : Int) by omega), trivial⟩, ⟨ho3.drawn hD4 (by omega), rfl, fun i hi => absurd hi (Nat.not_lt_zero i)⟩, (fun r hr => by simp at hr), hX4⟩) ?_
  · rintro m E w5 ⟨k, vo, cv, rs, rfl, hrk, hag, ho5, hrl, hX5⟩
    refine CW.re _ hag rfl ?_
    have hs5 := hX5.size
    refine CW.seq ?_
    refine CW.seq ?_
    refine CW.region ?_
    refine RL.y rfl (y_mov (v := .int _ _) rfl) ?_
    refine RL.y rfl (y_gt rfl rfl) ?_
    refine RL.nil ?_
    refine Fin.next ?_
    refine CW.cond rfl rfl (fun hck => ?_) (fun hck => ?_)
    · with_reducible first | (replace hck := deNF hck) | (replace hck := of_decide_eq_true hck) | (replace hck := of_decide_eq_false hck) | (replace hck := deNT hck) | (replace hck := deNN hck) | (replace hck := bnT hck) | (replace hck := bnF hck) | skip
      refine CW.skip ?_
      refine Fin.next ?_
      refine CW.seq ?_
      refine CW.block ?_
      refine CW.region ?_
      refine RL.y rfl (y_mov (by conv => lhs; whnf)) ?_
      refine RL.y rfl (y_mov (by conv => lhs; whnf)) ?_
      refine RL.y rfl (y_loads ag25 rfl (eqw ((hM.ext hE2).drawn hX5 (by omega))) rfl) ?_
      refine RL.call rfl (l02Some_any hX5.1 hm) ?_
      rintro v6 w6 ⟨xs, hs6, hi6, hxl, hD6⟩
      have hX6 := hX5.trans hD6
      have hs66 := hD6.size
      have ho6 := ho5.drawn hD6 (by omega) (by omega)
      have hcl := ho5.2.1
      refine RL.app1 rfl rfl sT26 (by omega) ho6.1 (by omega) (by omega) rfl (slice_one hs6) (fun _ => rfl) (fun u v7 w7 ho7 hg7 hn7 => ?_)
      have hp := ho6.push hs6 (fun x hx => by have := hi6 x hx; omega) (fun x hx h => by have := hi6 x hx; have := (ho5.1.lt x h).2; omega) ho7 hg7 hn7
      refine RL.y rfl (y_asg (by conv => lhs; whnf)) ?_
      refine RL.nil ?_
      refine Fin.blockNormal ?_
      refine Fin.next ?_
      refine CW.region ?_
      refine RL.y rfl (y_mov (v := .int _ _) rfl) ?_
      refine RL.y rfl (y_sub rfl rfl (IntWalk.i64_in _ (by omega))) ?_
      refine RL.y rfl (y_asg (v := .int _ _) rfl) ?_
      refine RL.nil ?_
      refine Fin.le ?_
      exact ⟨m - 1, by omega, m - 1, v7, _, _, rfl, by simp; omega, ⟨rfl, rfl, rfl, rfl, congrArg (Value.int .i64) (show (m : Int) - 1 = ((m - 1 : Nat) : Int) by omega), trivial⟩, hp, (fun r hr => by rcases List.mem_append.1 hr with h | h; exact hrl r h; obtain rfl : r = xs := (by simpa using h); exact hxl), hX6.grown (by omega) hg7 (fun x hx => (ho6.1.lt x hx).1)⟩
    · with_reducible first | (replace hck := deNF hck) | (replace hck := of_decide_eq_true hck) | (replace hck := of_decide_eq_false hck) | (replace hck := deNT hck) | (replace hck := deNN hck) | (replace hck := bnT hck) | (replace hck := bnF hck) | skip
      refine CW.exit ?_
      refine Fin.thenExit ?_
      refine Fin.thenExit ?_
      refine Fin.blockHit ?_
      refine Fin.next ?_
      refine CW.seq ?_
      refine CW.region ?_
      refine RL.y rfl (y_loads ag25 rfl (eqw ((hM.ext hE2).drawn hX5 (by omega))) rfl) ?_
      refine RL.y rfl (y_mov (by conv => lhs; whnf)) ?_
      refine RL.call rfl (l04Hull_any hm ho5.rd hrl) ?_
      rintro v6 w6 ⟨hh6, hE6⟩
      obtain ⟨vl, rfl, hhl⟩ := id hh6
      have hs6 := hE6.size
      refine RL.stores ag28 (((hV.drawn hX5 (by omega)).ext hE6)) rfl rfl rfl rfl (hh6.one) (fun w7 hV7 hg7 => ?_)
      replace hV7 : VR w7 w1.heap.size [vl] := hV7
      have hM7 : Mod w1.heap.size (w1.heap.size + 1) w6 w7 := grown_mod hg7 (fun k hk => by simp only [Option.some.injEq] at hk; omega)
      have hh7 := hhl.mod hM7 (by omega)
      have hs7 := hg7.size
      have hE01 := hE1.size
      refine RL.nil ?_
      refine Fin.next ?_
      refine CW.ret ?_
      refine Fin.retc rfl ag28 rfl rfl (hV7) ?_
      exact ⟨_, rfl, _, ⟨vl, rfl, OwN.wide hh7 (by omega) (by omega) (Nat.le_refl _)⟩, by rw [hul_len]; omega, (hX2.trans (hX5.ext hE6)).grown hb0 hg7 (fun k hk => by simp only [Option.some.injEq] at hk; omega)⟩

theorem l04Draw_any {w : World} {b : Nat} (hs : Src w b) :
    Does Try.prog 54 #[.pointer (some ⟨b, 0, none⟩)] w (fun r w' => ∃ q v1 ss, r = .tuple #[mkA q, v1] ∧ smM q ∧ RuL w' w.heap.size w'.heap.size v1 ss ∧ Drawn w b w') := by
  have hb0 := hs.lt
  refine enter Try.func54 rfl 52 Try.ntmps54 rfl (by kernel_rfl) ?_
  refine CW.seq ?_
  refine CW.region ?_
  refine RL.alloc rfl ze25 (fun w1 hV hE1 => ?_)
  refine RL.alloc rfl ze28 (fun w2 hW hE2 => ?_)
  have hl1 := hV.lt
  have hl2 := hW.lt
  have hE02 := hE1.trans hE2
  have hX2 := (Drawn.refl hs).ext hE02
  refine RL.nil ?_
  refine Fin.next ?_
  refine CW.seq ?_
  refine CW.region ?_
  refine RL.y rfl (y_mov (by conv => lhs; whnf)) ?_
  refine RL.call rfl (l02Draw_any hX2.1) ?_
  rintro r w3 ⟨q, rfl, hsm, hD3⟩
  have hX3 := hX2.trans hD3
  have hs3 := hD3.size
  refine RL.alloc rfl ze25 (fun w4 hM hE4 => ?_)
  have hl4 := hM.lt
  refine RL.stores ag25 (hM) rfl rfl rfl rfl (rfl) (fun w5 hM5 hg5 => ?_)
  replace hM5 : VR w5 w3.heap.size (mkL q) := hM5
  have hl5 := hM5.lt
  have hE35 : Ext w3 w5 := hE4.grown hg5 (fun k hk => by simp only [Option.some.injEq] at hk; omega)
  have hs5 := hE35.size
  have hX5 := hX3.ext hE35
  refine RL.nil ?_
  refine Fin.next ?_
  refine CW.seq ?_
  refine CW.seq ?_
  refine CW.region ?_
  refine RL.y rfl (y_loads ag25 rfl (eqw (hM5)) rfl) ?_
  refine RL.call rfl (specIsMaker_any) ?_
  rintro r w6 ⟨rfl, hE6⟩
  have hX6 := hX5.ext hE6
  have hs6 := hE6.size
  have hM6 := hM5.ext hE6
  have hV6 := (((hV.ext hE2).drawn hD3 (by omega)).ext hE35).ext hE6
  have hW6 := ((hW.drawn hD3 (by omega)).ext hE35).ext hE6
  refine RL.y rfl (y_not rfl) ?_
  refine RL.nil ?_
  refine Fin.next ?_
  refine CW.cond rfl rfl (fun h1 => ?_) (fun h1 => ?_)
  · with_reducible first | (replace h1 := deNF h1) | (replace h1 := of_decide_eq_true h1) | (replace h1 := of_decide_eq_false h1) | (replace h1 := deNT h1) | (replace h1 := deNN h1) | (replace h1 := bnT h1) | (replace h1 := bnF h1) | skip
    refine CW.seq ?_
    refine CW.region ?_
    refine RL.y rfl (y_loads ag25 rfl (eqw (hM6)) rfl) ?_
    refine RL.lit1 rfl sT29 rfl rfl (fun va w7 ha7 hE7 hba => ?_)
    refine RL.lit1 rfl sT29 rfl rfl (fun vb w8 hb8 hE8 hbb => ?_)
    refine RL.lit2 rfl sT26 (slice_one (ha7.ext hE8).sv) (slice_one hb8.sv) rfl rfl (fun vl w9 hc9 hE9 hbc => ?_)
    have hE69 := (hE7.trans hE8).trans hE9
    have hs7 := hE7.size
    have hs8 := hE8.size
    have hs9 := hE9.size
    have hR9 : RuSS w9 w6.heap.size w9.heap.size vl [[0], [0]] := ⟨[va, vb], ⟨hc9.sv, rfl, fun i hi => two_rows (f := ints) (xs := [0]) (ys := [0]) ((ha7.ext hE8).ext hE9).sv (hb8.ext hE9).sv hi⟩, (fun x hx => by have := hc9.lt x hx; omega), Nat.le_refl _, fun i hi x hx => by match i, hi with | 0, _ => (have := ((ha7.ext hE8).ext hE9).lt x hx; omega) | 1, _ => (have := (hb8.ext hE9).lt x hx; omega) | (k + 2), h => exact absurd h (by simp)⟩
    refine RL.y rfl (y_build bd28 rfl (fill_one (slice_one hc9.sv) rfl rfl fill_nil)) ?_
    refine RL.stores ag25 (hV6.ext hE69) rfl rfl rfl rfl (rfl) (fun wa hVa hga => ?_)
    replace hVa : VR wa w.heap.size (mkL q) := hVa
    have hMga : Mod w.heap.size (w.heap.size + 1) w9 wa := grown_mod hga (fun k hk => by simp only [Option.some.injEq] at hk; omega)
    have hsa := hga.size
    have hRa := hR9.mod hMga (by omega)
    refine RL.stores ag28 ((hW6.ext hE69).mod hMga (by omega)) rfl rfl rfl rfl (hRa.oneL) (fun wb hWb hgb => ?_)
    replace hWb : VR wb w1.heap.size [vl] := hWb
    have hMgb : Mod w1.heap.size (w1.heap.size + 1) wa wb := grown_mod hgb (fun k hk => by simp only [Option.some.injEq] at hk; omega)
    have hsb := hgb.size
    have hRb := hRa.mod hMgb (by omega)
    have hVb := hVa.mod hMgb (by omega)
    refine RL.nil ?_
    refine Fin.next ?_
    refine CW.ret ?_
    refine Fin.thenRet ?_
    refine Fin.ret_cc rfl ag25 rfl rfl hVb ag28 rfl rfl hWb ?_
    exact ⟨_, rfl, q, _, _, rfl, hsm, ⟨vl, rfl, RuN.wide hRb (by omega) (by omega) (Nat.le_refl _)⟩, ((hX6.ext hE69).grown hb0 hga (fun k hk => by simp only [Option.some.injEq] at hk; omega)).grown hb0 hgb (fun k hk => by simp only [Option.some.injEq] at hk; omega)⟩
  · with_reducible first | (replace h1 := deNF h1) | (replace h1 := of_decide_eq_true h1) | (replace h1 := of_decide_eq_false h1) | (replace h1 := deNT h1) | (replace h1 := deNN h1) | (replace h1 := bnT h1) | (replace h1 := bnF h1) | skip
    refine CW.skip ?_
    refine Fin.next ?_
    refine CW.seq ?_
    refine CW.region ?_
    refine RL.y rfl (y_mov (by conv => lhs; whnf)) ?_
    refine RL.y rfl (y_loads ag25 rfl (eqw (hM6)) rfl) ?_
    refine RL.call rfl (l04Valid_any hX6.1 h1) ?_
    rintro v7 w7 ⟨ss, ho7, hsl, hD7⟩
    have m1 := h1.1
    obtain ⟨vl, rfl, hol⟩ := id ho7
    have hX7 := hX6.trans hD7
    have hs7 := hD7.size
    refine RL.alloc rfl ze28 (fun w8 hL hE8 => ?_)
    have hl8 := hL.lt
    refine RL.stores ag28 (hL) rfl rfl rfl rfl (ho7.one) (fun w9 hL9 hg9 => ?_)
    replace hL9 : VR w9 w7.heap.size [vl] := hL9
    have hE79 : Ext w7 w9 := hE8.grown hg9 (fun k hk => by simp only [Option.some.injEq] at hk; omega)
    have hs9 := hE79.size
    refine RL.nil ?_
    refine Fin.next ?_
    refine CW.seq ?_
    refine CW.seq ?_
    refine CW.region ?_
    refine RL.y rfl (y_mov (by conv => lhs; whnf)) ?_
    refine RL.call rfl (l01Next_any (hX7.ext hE79).1 (by omega)) ?_
    rintro r w10 ⟨x10, rfl, ⟨p10, q10, -⟩, hD10⟩
    replace q10 := q10 (by omega)
    have hX10 := (hX7.ext hE79).trans hD10
    have hs10 := hD10.size
    have hMx := ((hM6.drawn hD7 (by omega)).ext hE79).drawn hD10 (by omega)
    have hLx := hL9.drawn hD10 (by omega)
    have hVx := ((hV6.drawn hD7 (by omega)).ext hE79).drawn hD10 (by omega)
    have hWx := ((hW6.drawn hD7 (by omega)).ext hE79).drawn hD10 (by omega)
    obtain ⟨cv, hoc⟩ := (OwN.ext hol hE79).mod hD10.2 (.inr (by omega))
    have hU := hoc.1.2.1
    have hcvl := hoc.2.1
    clear hL hL9 hM hM5 hM6 hV6 hW6
    refine RL.nil ?_
    refine Fin.next ?_
    refine CW.block ?_
    refine CW.seq ?_
    refine CW.region ?_
    refine RL.y rfl (y_eq rfl rfl) ?_
    refine RL.y rfl (y_asg (v := .bool _) rfl) ?_
    refine RL.nil ?_
    refine Fin.next ?_
    refine CW.cond rfl rfl (fun h2 => ?_) (fun h2 => ?_)
    · with_reducible first | (replace h2 := deNF h2) | (replace h2 := of_decide_eq_true h2) | (replace h2 := of_decide_eq_false h2) | (replace h2 := deNT h2) | (replace h2 := deNN h2) | (replace h2 := bnT h2) | (replace h2 := bnF h2) | skip
      have hX10d := hX10.ext (Ext.drew w10)
      have hCx : VR w10.drew w3.heap.size (mkL q) ∧ VR w10.drew w7.heap.size [vl] := ⟨hMx.ext (Ext.drew _), hLx.ext (Ext.drew _)⟩
      have hocd := hoc.ext (Ext.drew w10)
      have hs10d := (Ext.drew w10).size
      refine CW.tape (fun w' => VR w' w3.heap.size (mkL q) ∧ VR w' w7.heap.size [vl]) [9, 8, 7, 6, 5] mixed (by kernel_rfl) (by kernel_rfl) (hCx) ?_
      refine TL.y rfl rfl (y_fa fa28_0 rfl rfl) ?_
      refine TL.y rfl rfl (y_loadv sc26 (fun _ hC => hC.2) rfl rfl) ?_
      refine TL.y rfl rfl (y_mov (by conv => lhs; whnf)) ?_
      refine TL.y rfl rfl (y_fa fa25_1 rfl rfl) ?_
      refine TL.y rfl rfl (y_loadv sc2 (fun _ hC => hC.1) rfl rfl) ?_
      refine TL.op rfl (fun hC => ?_)
      refine RL.lits [.int .i64 (0), .int .i64 (-1), .int .i64 q.dp] rfl sT29 rfl (by omega) (by simp [Value.oneCell']) rfl (fun vp w11 hp11 hE11 hb11 => ?_)
      have hs11 := hE11.size
      have hX11 := hX10d.ext hE11
      refine RL.nil ?_
      refine Fin.tl (⟨hCx.1.ext hE11, hCx.2.ext hE11⟩) ?_
      refine TL.op rfl (fun hC => ?_)
      refine RL.call rfl (l01Pick_any (xs := [0, -1, q.dp]) hX11.1 hp11.sv (by simp) (fun x hx => by have := (hp11.lt x hx).1; omega)) ?_
      rintro r w12 ⟨z, rfl, -, hD12⟩
      have hX12 := hX11.trans hD12
      have hs12 := hD12.size
      have hoc12 := (hocd.ext hE11).mod hD12.2 (.inr (by omega))
      have hM12 := (hCx.1.ext hE11).drawn hD12 (by omega)
      have hL12 := (hCx.2.ext hE11).drawn hD12 (by omega)
      refine RL.nil ?_
      refine Fin.tl (⟨hM12, hL12⟩) ?_
      refine TL.op rfl (fun hC => ?_)
      refine RL.lit1 rfl sT29 rfl rfl (fun vn w13 hn13 hE13 hb13 => ?_)
      have hs13 := hE13.size
      have hoc13 := hoc12.ext hE13
      refine RL.nil ?_
      refine Fin.tl (⟨hM12.ext hE13, hL12.ext hE13⟩) ?_
      refine TL.yc rfl rfl (y_ixa sT26 (eqw (hoc13.1.sv)) (k := 0) (by omega) rfl rfl) ?_
      refine TL.op rfl (fun hC => ?_)
      refine RL.store sT26 hoc13.1.ov (k := 0) (x := vn) (by omega) rfl rfl (slice_one hn13.sv) (fun w14 hv14 hg14 => ?_)
      have hs14 := hg14.size
      have hrow : ∀ k, vl.ownBlock = some k → w6.heap.size ≤ k ∧ k < w7.heap.size := fun k hk => hoc13.1.lt k hk
      have hnb : NB vn vl := fun x h3 h4 => by have := (hn13.lt x h3).1; have := hrow x h4; omega
      have hR14 := hoc13.put (i := 0) (r := [z]) (by omega) (hn13.mono (by omega)) hnb hv14 hg14
      have hMz := (hM12.ext hE13).grown hg14 (fun e => by have := hrow _ e; omega)
      have hLz := (hL12.ext hE13).grown hg14 (fun e => by have := hrow _ e; omega)
      refine RL.nil ?_
      refine Fin.tl (⟨hMz, hLz⟩) ?_
      refine TL.nil (fun hC => ?_)
      have hVz := ((((hVx.ext (Ext.drew _)).ext hE11).drawn hD12 (by omega)).ext hE13).grown hg14 (fun e => by have := hrow _ e; omega)
      have hWz := ((((hWx.ext (Ext.drew _)).ext hE11).drawn hD12 (by omega)).ext hE13).grown hg14 (fun e => by have := hrow _ e; omega)
      have hXz := (hX12.ext hE13).grown hb0 hg14 (fun k hk => by have := hrow k hk; omega)
      have hRz := hR14
      have hdz : Ext w14 w14.drew := Ext.drew _
      have hCz : VR w14.drew w3.heap.size (mkL q) ∧ VR w14.drew w7.heap.size [vl] := ⟨hMz.ext hdz, hLz.ext hdz⟩
      have hszd := hdz.size
      refine Fin.blockNormal ?_
      refine Fin.next ?_
      refine CW.seq ?_
      refine CW.tape (fun w' => VR w' w3.heap.size (mkL q) ∧ VR w' w7.heap.size [vl]) [3, 2] mixed (by kernel_rfl) (by kernel_rfl) (hCz) ?_
      refine TL.y rfl rfl (y_loads ag25 rfl (fun _ hC => hC.1) rfl) ?_
      refine TL.y rfl rfl (y_loads ag28 rfl (fun _ hC => hC.2) rfl) ?_
      refine TL.op rfl (fun hC => ?_)
      refine RL.stores ag25 ((hVz.ext hdz)) rfl rfl rfl rfl (rfl) (fun wa hVa hga => ?_)
      replace hVa : VR wa w.heap.size (mkL q) := hVa
      have hMga : Mod w.heap.size (w.heap.size + 1) w14.drew wa := grown_mod hga (fun k hk => by simp only [Option.some.injEq] at hk; omega)
      have hMa := hCz.1.mod hMga (by omega)
      have hLa := hCz.2.mod hMga (by omega)
      have hWa := (hWz.ext hdz).mod hMga (by omega)
      have hsa := hga.size
      refine RL.nil ?_
      refine Fin.tl (⟨hMa, hLa⟩) ?_
      refine TL.op rfl (fun hC => ?_)
      refine RL.stores ag28 (hWa) rfl rfl rfl rfl (((hRz.ext hdz).mod hMga (by omega)).oneL) (fun wb hWb hgb => ?_)
      replace hWb : VR wb w1.heap.size [vl] := hWb
      have hMgb : Mod w1.heap.size (w1.heap.size + 1) wa wb := grown_mod hgb (fun k hk => by simp only [Option.some.injEq] at hk; omega)
      have hVb := hVa.mod hMgb (by omega)
      have hsb := hgb.size
      have hRb := ((hRz.ext hdz).mod hMga (by omega)).mod hMgb (by omega)
      refine RL.nil ?_
      refine Fin.tl (⟨hMa.mod hMgb (by omega), hLa.mod hMgb (by omega)⟩) ?_
      refine TL.nil (fun hC => ?_)
      refine Fin.next ?_
      refine CW.ret ?_
      refine Fin.ret_cc rfl ag25 rfl rfl hVb ag28 rfl rfl hWb ?_
      exact ⟨_, rfl, q, _, _, rfl, hsm, ⟨vl, rfl, RuN.wide hRb (by omega) (by omega) (Nat.le_refl _)⟩, ((hXz.ext hdz).grown hb0 hga (fun k hk => by simp only [Option.some.injEq] at hk; omega)).grown hb0 hgb (fun k hk => by simp only [Option.some.injEq] at hk; omega)⟩
    · with_reducible first | (replace h2 := deNF h2) | (replace h2 := of_decide_eq_true h2) | (replace h2 := of_decide_eq_false h2) | (replace h2 := deNT h2) | (replace h2 := deNN h2) | (replace h2 := bnT h2) | (replace h2 := bnF h2) | skip
      refine CW.seq ?_
      refine CW.region ?_
      refine RL.y rfl (y_eq rfl rfl) ?_
      refine RL.y rfl (y_asg (v := .bool _) rfl) ?_
      refine RL.nil ?_
      refine Fin.next ?_
      refine CW.cond rfl rfl (fun h3 => ?_) (fun h3 => ?_)
      · with_reducible first | (replace h3 := deNF h3) | (replace h3 := of_decide_eq_true h3) | (replace h3 := of_decide_eq_false h3) | (replace h3 := deNT h3) | (replace h3 := deNN h3) | (replace h3 := bnT h3) | (replace h3 := bnF h3) | skip
        refine CW.region ?_
        refine RL.y rfl (y_fa fa28_0 rfl rfl) ?_
        refine RL.y rfl (y_loadv sc26 (eqw (hLx)) rfl rfl) ?_
        refine RL.lit2 rfl sT29 rfl rfl rfl rfl (fun vn w13 hn13 hE13 hb13 => ?_)
        have hs13 := hE13.size
        have hoc13 := hoc.ext hE13
        refine RL.y rfl (y_ixa sT26 (eqw (hoc13.1.sv)) (k := 0) (by omega) rfl rfl) ?_
        refine RL.store sT26 hoc13.1.ov (k := 0) (x := vn) (by omega) rfl rfl (slice_one hn13.sv) (fun w14 hv14 hg14 => ?_)
        have hs14 := hg14.size
        have hrow : ∀ k, vl.ownBlock = some k → w6.heap.size ≤ k ∧ k < w7.heap.size := fun k hk => hoc13.1.lt k hk
        have hnb : NB vn vl := fun x h3 h4 => by have := (hn13.lt x h3).1; have := hrow x h4; omega
        have hRz := hoc13.put (i := 0) (r := [1, 0]) (by omega) (hn13.mono (by omega)) hnb hv14 hg14
        have hMz := (hMx.ext hE13).grown hg14 (fun e => by have := hrow _ e; omega)
        have hLz := (hLx.ext hE13).grown hg14 (fun e => by have := hrow _ e; omega)
        have hVz := (hVx.ext hE13).grown hg14 (fun e => by have := hrow _ e; omega)
        have hWz := (hWx.ext hE13).grown hg14 (fun e => by have := hrow _ e; omega)
        have hXz := (hX10.ext hE13).grown hb0 hg14 (fun k hk => by have := hrow k hk; omega)
        have hdz : Ext w14 w14.drew := Ext.drew _
        have hCz : VR w14.drew w3.heap.size (mkL q) ∧ VR w14.drew w7.heap.size [vl] := ⟨hMz.ext hdz, hLz.ext hdz⟩
        have hszd := hdz.size
        refine RL.nil ?_
        refine Fin.blockNormal ?_
        refine Fin.next ?_
        refine CW.seq ?_
        refine CW.tape (fun w' => VR w' w3.heap.size (mkL q) ∧ VR w' w7.heap.size [vl]) [3, 2] mixed (by kernel_rfl) (by kernel_rfl) (hCz) ?_
        refine TL.y rfl rfl (y_loads ag25 rfl (fun _ hC => hC.1) rfl) ?_
        refine TL.y rfl rfl (y_loads ag28 rfl (fun _ hC => hC.2) rfl) ?_
        refine TL.op rfl (fun hC => ?_)
        refine RL.stores ag25 ((hVz.ext hdz)) rfl rfl rfl rfl (rfl) (fun wa hVa hga => ?_)
        replace hVa : VR wa w.heap.size (mkL q) := hVa
        have hMga : Mod w.heap.size (w.heap.size + 1) w14.drew wa := grown_mod hga (fun k hk => by simp only [Option.some.injEq] at hk; omega)
        have hMa := hCz.1.mod hMga (by omega)
        have hLa := hCz.2.mod hMga (by omega)
        have hWa := (hWz.ext hdz).mod hMga (by omega)
        have hsa := hga.size
        refine RL.nil ?_
        refine Fin.tl (⟨hMa, hLa⟩) ?_
        refine TL.op rfl (fun hC => ?_)
        refine RL.stores ag28 (hWa) rfl rfl rfl rfl (((hRz.ext hdz).mod hMga (by omega)).oneL) (fun wb hWb hgb => ?_)
        replace hWb : VR wb w1.heap.size [vl] := hWb
        have hMgb : Mod w1.heap.size (w1.heap.size + 1) wa wb := grown_mod hgb (fun k hk => by simp only [Option.some.injEq] at hk; omega)
        have hVb := hVa.mod hMgb (by omega)
        have hsb := hgb.size
        have hRb := ((hRz.ext hdz).mod hMga (by omega)).mod hMgb (by omega)
        refine RL.nil ?_
        refine Fin.tl (⟨hMa.mod hMgb (by omega), hLa.mod hMgb (by omega)⟩) ?_
        refine TL.nil (fun hC => ?_)
        refine Fin.next ?_
        refine CW.ret ?_
        refine Fin.ret_cc rfl ag25 rfl rfl hVb ag28 rfl rfl hWb ?_
        exact ⟨_, rfl, q, _, _, rfl, hsm, ⟨vl, rfl, RuN.wide hRb (by omega) (by omega) (Nat.le_refl _)⟩, ((hXz.ext hdz).grown hb0 hga (fun k hk => by simp only [Option.some.injEq] at hk; omega)).grown hb0 hgb (fun k hk => by simp only [Option.some.injEq] at hk; omega)⟩
      · with_reducible first | (replace h3 := deNF h3) | (replace h3 := of_decide_eq_true h3) | (replace h3 := of_decide_eq_false h3) | (replace h3 := deNT h3) | (replace h3 := deNN h3) | (replace h3 := bnT h3) | (replace h3 := bnF h3) | skip
        refine CW.seq ?_
        refine CW.region ?_
        refine RL.y rfl (y_eq rfl rfl) ?_
        refine RL.y rfl (y_asg (v := .bool _) rfl) ?_
        refine RL.nil ?_
        refine Fin.next ?_
        refine CW.cond rfl rfl (fun h4 => ?_) (fun h4 => ?_)
        · with_reducible first | (replace h4 := deNF h4) | (replace h4 := of_decide_eq_true h4) | (replace h4 := of_decide_eq_false h4) | (replace h4 := deNT h4) | (replace h4 := deNN h4) | (replace h4 := bnT h4) | (replace h4 := bnF h4) | skip
          refine CW.region ?_
          refine RL.y rfl (y_fa fa28_0 rfl rfl) ?_
          refine RL.y rfl (y_loadv sc26 (eqw (hLx)) rfl rfl) ?_
          refine RL.y rfl (y_ixa sT26 (eqw (hoc.1.sv)) (k := 1) (by omega) rfl rfl) ?_
          refine RL.store sT26 hoc.1.ov (k := 1) (x := .slice none 0 0) (by omega) rfl rfl rfl (fun w14 hv14 hg14 => ?_)
          have hs14 := hg14.size
          have hrow : ∀ k, vl.ownBlock = some k → w6.heap.size ≤ k ∧ k < w7.heap.size := fun k hk => hoc.1.lt k hk
          have hRz := hoc.put (i := 1) (r := []) (by omega) (OV.nil _ _ _) (fun x h3 h4 => by simp [Value.ownBlock] at h3) hv14 hg14
          have hMz := hMx.grown hg14 (fun e => by have := hrow _ e; omega)
          have hLz := hLx.grown hg14 (fun e => by have := hrow _ e; omega)
          have hVz := hVx.grown hg14 (fun e => by have := hrow _ e; omega)
          have hWz := hWx.grown hg14 (fun e => by have := hrow _ e; omega)
          have hXz := hX10.grown hb0 hg14 (fun k hk => by have := hrow k hk; omega)
          have hdz : Ext w14 w14.drew := Ext.drew _
          have hCz : VR w14.drew w3.heap.size (mkL q) ∧ VR w14.drew w7.heap.size [vl] := ⟨hMz.ext hdz, hLz.ext hdz⟩
          have hszd := hdz.size
          refine RL.nil ?_
          refine Fin.blockNormal ?_
          refine Fin.next ?_
          refine CW.seq ?_
          refine CW.tape (fun w' => VR w' w3.heap.size (mkL q) ∧ VR w' w7.heap.size [vl]) [3, 2] mixed (by kernel_rfl) (by kernel_rfl) (hCz) ?_
          refine TL.y rfl rfl (y_loads ag25 rfl (fun _ hC => hC.1) rfl) ?_
          refine TL.y rfl rfl (y_loads ag28 rfl (fun _ hC => hC.2) rfl) ?_
          refine TL.op rfl (fun hC => ?_)
          refine RL.stores ag25 ((hVz.ext hdz)) rfl rfl rfl rfl (rfl) (fun wa hVa hga => ?_)
          replace hVa : VR wa w.heap.size (mkL q) := hVa
          have hMga : Mod w.heap.size (w.heap.size + 1) w14.drew wa := grown_mod hga (fun k hk => by simp only [Option.some.injEq] at hk; omega)
          have hMa := hCz.1.mod hMga (by omega)
          have hLa := hCz.2.mod hMga (by omega)
          have hWa := (hWz.ext hdz).mod hMga (by omega)
          have hsa := hga.size
          refine RL.nil ?_
          refine Fin.tl (⟨hMa, hLa⟩) ?_
          refine TL.op rfl (fun hC => ?_)
          refine RL.stores ag28 (hWa) rfl rfl rfl rfl (((hRz.ext hdz).mod hMga (by omega)).oneL) (fun wb hWb hgb => ?_)
          replace hWb : VR wb w1.heap.size [vl] := hWb
          have hMgb : Mod w1.heap.size (w1.heap.size + 1) wa wb := grown_mod hgb (fun k hk => by simp only [Option.some.injEq] at hk; omega)
          have hVb := hVa.mod hMgb (by omega)
          have hsb := hgb.size
          have hRb := ((hRz.ext hdz).mod hMga (by omega)).mod hMgb (by omega)
          refine RL.nil ?_
          refine Fin.tl (⟨hMa.mod hMgb (by omega), hLa.mod hMgb (by omega)⟩) ?_
          refine TL.nil (fun hC => ?_)
          refine Fin.next ?_
          refine CW.ret ?_
          refine Fin.ret_cc rfl ag25 rfl rfl hVb ag28 rfl rfl hWb ?_
          exact ⟨_, rfl, q, _, _, rfl, hsm, ⟨vl, rfl, RuN.wide hRb (by omega) (by omega) (Nat.le_refl _)⟩, ((hXz.ext hdz).grown hb0 hga (fun k hk => by simp only [Option.some.injEq] at hk; omega)).grown hb0 hgb (fun k hk => by simp only [Option.some.injEq] at hk; omega)⟩
        · with_reducible first | (replace h4 := deNF h4) | (replace h4 := of_decide_eq_true h4) | (replace h4 := of_decide_eq_false h4) | (replace h4 := deNT h4) | (replace h4 := deNN h4) | (replace h4 := bnT h4) | (replace h4 := bnF h4) | skip
          refine CW.seq ?_
          refine CW.region ?_
          refine RL.y rfl (y_eq rfl rfl) ?_
          refine RL.y rfl (y_asg (v := .bool _) rfl) ?_
          refine RL.nil ?_
          refine Fin.next ?_
          refine CW.cond rfl rfl (fun h5 => ?_) (fun h5 => ?_)
          · with_reducible first | (replace h5 := deNF h5) | (replace h5 := of_decide_eq_true h5) | (replace h5 := of_decide_eq_false h5) | (replace h5 := deNT h5) | (replace h5 := deNN h5) | (replace h5 := bnT h5) | (replace h5 := bnF h5) | skip
            have hR10 : RuSS w10 w6.heap.size w7.heap.size vl ss := OwN.ru ⟨cv, hoc⟩
            have hRd := (RuN.drop1 hR10 (by omega)).ext (Ext.drew w10)
            obtain ⟨cd, hcd⟩ := hRd.rd
            have hCx : VR w10.drew w3.heap.size (mkL q) ∧ VR w10.drew w7.heap.size [vl] ∧ SV w10.drew vl cv := ⟨hMx.ext (Ext.drew _), hLx.ext (Ext.drew _), (hoc.ext (Ext.drew w10)).1.sv⟩
            have hs10d := (Ext.drew w10).size
            refine CW.seq ?_
            refine CW.tape (fun w' => VR w' w3.heap.size (mkL q) ∧ VR w' w7.heap.size [vl] ∧ SV w' vl cv) [6, 5] mixed (by kernel_rfl) (by kernel_rfl) (hCx) ?_
            refine TL.y rfl rfl (y_loads ag25 rfl (fun _ hC => hC.1) rfl) ?_
            refine TL.y rfl rfl (y_fa fa28_0 rfl rfl) ?_
            refine TL.y rfl rfl (y_loadv sc26 (fun _ hC => hC.2.1) rfl rfl) ?_
            refine TL.y rfl rfl (y_cutL sT26 (fun _ hC => hC.2.2) (l := 1) (by omega) rfl rfl ) ?_
            rw [hcvl]
            refine TL.y rfl rfl (y_build bd28 rfl (fill_one (slice_one hcd.1) rfl rfl fill_nil)) ?_
            refine TL.op rfl (fun hC => ?_)
            refine RL.stores ag25 (hVx.ext (Ext.drew _)) rfl rfl rfl rfl (rfl) (fun wa hVa hga => ?_)
            replace hVa : VR wa w.heap.size (mkL q) := hVa
            have hMga : Mod w.heap.size (w.heap.size + 1) w10.drew wa := grown_mod hga (fun k hk => by simp only [Option.some.injEq] at hk; omega)
            have hsa := hga.size
            have hRa := hRd.mod hMga (by omega)
            refine RL.nil ?_
            refine Fin.tl (⟨hCx.1.mod hMga (by omega), hCx.2.1.mod hMga (by omega), ((hoc.ext (Ext.drew w10)).mod hMga (.inr (by omega))).1.sv⟩) ?_
            refine TL.op rfl (fun hC => ?_)
            refine RL.stores ag28 ((hWx.ext (Ext.drew _)).mod hMga (by omega)) rfl rfl rfl rfl (hRa.oneL) (fun wb hWb hgb => ?_)
            replace hWb : VR wb w1.heap.size _ := hWb
            have hMgb : Mod w1.heap.size (w1.heap.size + 1) wa wb := grown_mod hgb (fun k hk => by simp only [Option.some.injEq] at hk; omega)
            have hsb := hgb.size
            have hRb := hRa.mod hMgb (by omega)
            have hVb := hVa.mod hMgb (by omega)
            refine RL.nil ?_
            refine Fin.tl (⟨(hCx.1.mod hMga (by omega)).mod hMgb (by omega), (hCx.2.1.mod hMga (by omega)).mod hMgb (by omega), (((hoc.ext (Ext.drew w10)).mod hMga (.inr (by omega))).mod hMgb (.inr (by omega))).1.sv⟩) ?_
            refine TL.nil (fun hC => ?_)
            refine Fin.next ?_
            refine CW.ret ?_
            refine Fin.blockRet ?_
            refine Fin.thenRet ?_
            refine Fin.ret_cc rfl ag25 rfl rfl hVb ag28 rfl rfl hWb ?_
            exact ⟨_, rfl, q, _, _, rfl, hsm, ⟨_, rfl, RuN.wide hRb (by omega) (by omega) (Nat.le_refl _)⟩, ((hX10.ext (Ext.drew _)).grown hb0 hga (fun k hk => by simp only [Option.some.injEq] at hk; omega)).grown hb0 hgb (fun k hk => by simp only [Option.some.injEq] at hk; omega)⟩
          · with_reducible first | (replace h5 := deNF h5) | (replace h5 := of_decide_eq_true h5) | (replace h5 := of_decide_eq_false h5) | (replace h5 := deNT h5) | (replace h5 := deNN h5) | (replace h5 := bnT h5) | (replace h5 := bnF h5) | skip
            have hRz : RuSS w10 w6.heap.size w7.heap.size vl ss := OwN.ru ⟨cv, hoc⟩
            have hMz := hMx
            have hLz := hLx
            have hVz := hVx
            have hWz := hWx
            have hdz : Ext w10 w10.drew := Ext.drew _
            have hCz : VR w10.drew w3.heap.size (mkL q) ∧ VR w10.drew w7.heap.size [vl] := ⟨hMz.ext hdz, hLz.ext hdz⟩
            have hszd := hdz.size
            refine CW.skip ?_
            refine Fin.blockNormal ?_
            refine Fin.next ?_
            refine CW.seq ?_
            refine CW.tape (fun w' => VR w' w3.heap.size (mkL q) ∧ VR w' w7.heap.size [vl]) [3, 2] mixed (by kernel_rfl) (by kernel_rfl) (hCz) ?_
            refine TL.y rfl rfl (y_loads ag25 rfl (fun _ hC => hC.1) rfl) ?_
            refine TL.y rfl rfl (y_loads ag28 rfl (fun _ hC => hC.2) rfl) ?_
            refine TL.op rfl (fun hC => ?_)
            refine RL.stores ag25 ((hVz.ext hdz)) rfl rfl rfl rfl (rfl) (fun wa hVa hga => ?_)
            replace hVa : VR wa w.heap.size (mkL q) := hVa
            have hMga : Mod w.heap.size (w.heap.size + 1) w10.drew wa := grown_mod hga (fun k hk => by simp only [Option.some.injEq] at hk; omega)
            have hMa := hCz.1.mod hMga (by omega)
            have hLa := hCz.2.mod hMga (by omega)
            have hWa := (hWz.ext hdz).mod hMga (by omega)
            have hsa := hga.size
            refine RL.nil ?_
            refine Fin.tl (⟨hMa, hLa⟩) ?_
            refine TL.op rfl (fun hC => ?_)
            refine RL.stores ag28 (hWa) rfl rfl rfl rfl (((hRz.ext hdz).mod hMga (by omega)).oneL) (fun wb hWb hgb => ?_)
            replace hWb : VR wb w1.heap.size [vl] := hWb
            have hMgb : Mod w1.heap.size (w1.heap.size + 1) wa wb := grown_mod hgb (fun k hk => by simp only [Option.some.injEq] at hk; omega)
            have hVb := hVa.mod hMgb (by omega)
            have hsb := hgb.size
            have hRb := ((hRz.ext hdz).mod hMga (by omega)).mod hMgb (by omega)
            refine RL.nil ?_
            refine Fin.tl (⟨hMa.mod hMgb (by omega), hLa.mod hMgb (by omega)⟩) ?_
            refine TL.nil (fun hC => ?_)
            refine Fin.next ?_
            refine CW.ret ?_
            refine Fin.ret_cc rfl ag25 rfl rfl hVb ag28 rfl rfl hWb ?_
            exact ⟨_, rfl, q, _, _, rfl, hsm, ⟨vl, rfl, RuN.wide hRb (by omega) (by omega) (Nat.le_refl _)⟩, ((hX10.ext hdz).grown hb0 hga (fun k hk => by simp only [Option.some.injEq] at hk; omega)).grown hb0 hgb (fun k hk => by simp only [Option.some.injEq] at hk; omega)⟩
end Go.Proofs.Ytaepdknmagaokaa
