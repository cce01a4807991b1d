/-
  Helpers of the laws on makers and locks.
-/
import Derived.Test.YtaepdknmagaokaaFWea2
import Derived.Test.YtaepdknmagaokaaTape
import Derived.Test.YtaepdknmagaokaaAny
namespace Go.Proofs.Ytaepdknmagaokaa
open B Go.RowKit

def heldLk (ss : List (List Int)) (k : Int) : Int := if heldN ss k < 0 then -1 else heldN ss k
theorem heldLk_marks (rs : List (List Int)) (k : Int) (h : 0 ≤ k) : heldLk (marksN rs k) k = k + (tot rs : Nat) := by
  unfold heldLk
  rw [heldN_marks _ _ h, if_neg (by omega)]

theorem szLock_any {w : World} {v : Value} {ss : List (List Int)} {left : Int} (hv : RdL w v ss) (h0 : 0 ≤ left) (h1 : left ≤ 1048576) :
    Does Try.prog 22 #[v, .int .i64 left] w (fun r w' => r = .int .i64 (szV (sizeN ss) left) ∧ Ext w w') := by
  obtain ⟨vl, rfl, hl⟩ := hv
  refine enter Try.func22 rfl 12 Try.ntmps22 rfl (by kernel_rfl) ?_
  refine CW.seq ?_
  refine CW.region ?_
  refine RL.box (cs := [vl]) rfl rfl rfl (fun w1 hV hE => ?_)
  refine RL.y rfl (y_asg rfl) ?_
  refine RL.nil ?_
  refine Fin.next ?_
  refine CW.seq ?_
  refine CW.region ?_
  refine RL.y rfl (y_fa fa41_0 rfl rfl) ?_
  refine RL.y rfl (y_loadv sc26 (eqw (hV)) rfl rfl) ?_
  refine RL.y rfl (y_mov (v := .int _ _) rfl) ?_
  refine RL.call rfl (szInt64SS_any (hl.ext hE) h0 h1) ?_
  rintro r w2 ⟨rfl, rfl⟩
  refine RL.y rfl (y_asg (v := .int _ _) rfl) ?_
  refine RL.nil ?_
  refine Fin.next ?_
  refine CW.seq ?_
  refine CW.seq ?_
  refine CW.region ?_
  refine RL.y rfl (y_mov (v := .int _ _) rfl) ?_
  refine RL.y rfl (y_lt rfl rfl) ?_
  refine RL.nil ?_
  refine Fin.next ?_
  refine CW.cond rfl rfl (fun hc => ?_) (fun hc => ?_)
  · with_reducible first | (replace hc := deNF hc) | (replace hc := of_decide_eq_true hc) | (replace hc := of_decide_eq_false hc) | (replace hc := deNT hc) | (replace hc := deNN hc) | (replace hc := bnT hc) | (replace hc := bnF hc) | skip
    have hno : left - (sizeN ss : Nat) < 0 := Classical.byContradiction fun h => by rw [szV_yes h] at hc; omega
    refine CW.seq ?_
    refine CW.region ?_
    refine RL.y rfl (y_asg rfl) ?_
    refine RL.nil ?_
    refine Fin.next ?_
    refine CW.ret ?_
    refine Fin.thenRet ?_
    refine Fin.ret1 rfl (by conv => lhs; whnf) ?_
    exact ⟨_, rfl, by rw [szV_no hno], hE⟩
  · with_reducible first | (replace hc := deNF hc) | (replace hc := of_decide_eq_true hc) | (replace hc := of_decide_eq_false hc) | (replace hc := deNT hc) | (replace hc := deNN hc) | (replace hc := bnT hc) | (replace hc := bnF hc) | skip
    refine CW.skip ?_
    refine Fin.next ?_
    refine CW.seq ?_
    refine CW.region ?_
    refine RL.y rfl (y_mov (v := .int _ _) rfl) ?_
    refine RL.y rfl (y_asg (v := .int _ _) rfl) ?_
    refine RL.nil ?_
    refine Fin.next ?_
    refine CW.ret ?_
    refine Fin.ret1 rfl (by conv => lhs; whnf) ?_
    exact ⟨_, rfl, rfl, hE⟩

theorem toMaker_any {w : World} {q : Mk} :
    Does Try.prog 24 #[mkA q] w (fun v' w' => v' = mkA q ∧ Ext w w') := by
  refine enter Try.func24 rfl 20 Try.ntmps24 rfl (by kernel_rfl) ?_
  refine CW.seq ?_
  refine CW.region ?_
  refine RL.box (cs := [.int .i64 q.ch, .int .i64 q.dp, .int .i64 q.st, .int .i64 q.sm, .int .i64 q.le]) rfl rfl rfl (fun w1 hV1 hE1 => ?_)
  refine RL.alloc rfl ze25 (fun w2 hV2 hE2 => ?_)
  refine RL.nil ?_
  refine Fin.next ?_
  refine CW.seq ?_
  refine CW.region ?_
  refine RL.alloc rfl ze25 (fun w3 hV3 hE3 => ?_)
  have hl1 := hV1.lt
  have hl2 := hV2.lt
  have hl3 := hV3.lt
  have hE := (hE1.trans hE2).trans hE3
  replace hV1 := (hV1.ext hE2).ext hE3
  replace hV2 := hV2.ext hE3
  refine RL.nil ?_
  refine Fin.next ?_
  refine CW.seq ?_
  refine CW.region ?_
  refine RL.y rfl (y_fa fa40_0 rfl rfl) ?_
  refine RL.y rfl (y_loadv sc2 (eqw (hV1)) rfl rfl) ?_
  refine RL.y rfl (y_fa fa25_0 rfl rfl) ?_
  refine RL.storev so2 (hV3) (by simp) rfl rfl (rfl) (fun w4 hW0 hg0 => ?_)
  replace hV3 : VR w4 w2.heap.size [.int .i64 q.ch, .int .i64 0, .int .i64 0, .int .i64 0, .int .i64 0] := hW0
  have hs0 := hg0.size
  have hM0 : Mod w2.heap.size (w2.heap.size + 1) w3 w4 := grown_mod hg0 (fun k hk => by simp only [Option.some.injEq] at hk; omega)
  replace hV1 := hV1.mod hM0 (by omega)
  replace hV2 := hV2.mod hM0 (by omega)
  replace hE := hE.then_mod hM0 (by omega)
  refine RL.nil ?_
  refine Fin.next ?_
  refine CW.seq ?_
  refine CW.region ?_
  refine RL.y rfl (y_fa fa40_1 rfl rfl) ?_
  refine RL.y rfl (y_loadv sc2 (eqw (hV1)) rfl rfl) ?_
  refine RL.y rfl (y_fa fa25_1 rfl rfl) ?_
  refine RL.storev so2 (hV3) (by simp) rfl rfl (rfl) (fun w5 hW1 hg1 => ?_)
  replace hV3 : VR w5 w2.heap.size [.int .i64 q.ch, .int .i64 q.dp, .int .i64 0, .int .i64 0, .int .i64 0] := hW1
  have hs1 := hg1.size
  have hM1 : Mod w2.heap.size (w2.heap.size + 1) w4 w5 := grown_mod hg1 (fun k hk => by simp only [Option.some.injEq] at hk; omega)
  replace hV1 := hV1.mod hM1 (by omega)
  replace hV2 := hV2.mod hM1 (by omega)
  replace hE := hE.then_mod hM1 (by omega)
  refine RL.nil ?_
  refine Fin.next ?_
  refine CW.seq ?_
  refine CW.region ?_
  refine RL.y rfl (y_fa fa40_2 rfl rfl) ?_
  refine RL.y rfl (y_loadv sc2 (eqw (hV1)) rfl rfl) ?_
  refine RL.y rfl (y_fa fa25_2 rfl rfl) ?_
  refine RL.storev so2 (hV3) (by simp) rfl rfl (rfl) (fun w6 hW2 hg2 => ?_)
  replace hV3 : VR w6 w2.heap.size [.int .i64 q.ch, .int .i64 q.dp, .int .i64 q.st, .int .i64 0, .int .i64 0] := hW2
  have hs2 := hg2.size
  have hM2 : Mod w2.heap.size (w2.heap.size + 1) w5 w6 := grown_mod hg2 (fun k hk => by simp only [Option.some.injEq] at hk; omega)
  replace hV1 := hV1.mod hM2 (by omega)
  replace hV2 := hV2.mod hM2 (by omega)
  replace hE := hE.then_mod hM2 (by omega)
  refine RL.nil ?_
  refine Fin.next ?_
  refine CW.seq ?_
  refine CW.region ?_
  refine RL.y rfl (y_fa fa40_3 rfl rfl) ?_
  refine RL.y rfl (y_loadv sc2 (eqw (hV1)) rfl rfl) ?_
  refine RL.y rfl (y_fa fa25_3 rfl rfl) ?_
  refine RL.storev so2 (hV3) (by simp) rfl rfl (rfl) (fun w7 hW3 hg3 => ?_)
  replace hV3 : VR w7 w2.heap.size [.int .i64 q.ch, .int .i64 q.dp, .int .i64 q.st, .int .i64 q.sm, .int .i64 0] := hW3
  have hs3 := hg3.size
  have hM3 : Mod w2.heap.size (w2.heap.size + 1) w6 w7 := grown_mod hg3 (fun k hk => by simp only [Option.some.injEq] at hk; omega)
  replace hV1 := hV1.mod hM3 (by omega)
  replace hV2 := hV2.mod hM3 (by omega)
  replace hE := hE.then_mod hM3 (by omega)
  refine RL.nil ?_
  refine Fin.next ?_
  refine CW.seq ?_
  refine CW.region ?_
  refine RL.y rfl (y_fa fa40_4 rfl rfl) ?_
  refine RL.y rfl (y_loadv sc2 (eqw (hV1)) rfl rfl) ?_
  refine RL.y rfl (y_fa fa25_4 rfl rfl) ?_
  refine RL.storev so2 (hV3) (by simp) rfl rfl (rfl) (fun w8 hW4 hg4 => ?_)
  replace hV3 : VR w8 w2.heap.size [.int .i64 q.ch, .int .i64 q.dp, .int .i64 q.st, .int .i64 q.sm, .int .i64 q.le] := hW4
  have hs4 := hg4.size
  have hM4 : Mod w2.heap.size (w2.heap.size + 1) w7 w8 := grown_mod hg4 (fun k hk => by simp only [Option.some.injEq] at hk; omega)
  replace hV1 := hV1.mod hM4 (by omega)
  replace hV2 := hV2.mod hM4 (by omega)
  replace hE := hE.then_mod hM4 (by omega)
  refine RL.nil ?_
  refine Fin.next ?_
  refine CW.seq ?_
  refine CW.region ?_
  refine RL.y rfl (y_loads ag25 rfl (eqw (hV3)) rfl) ?_
  refine RL.stores ag25 (hV2) rfl rfl rfl rfl (rfl) (fun w9 hV9 hg9 => ?_)
  replace hV9 : VR w9 w1.heap.size [.int .i64 q.ch, .int .i64 q.dp, .int .i64 q.st, .int .i64 q.sm, .int .i64 q.le] := hV9
  have hM9 : Mod w1.heap.size (w1.heap.size + 1) w8 w9 := grown_mod hg9 (fun k hk => by simp only [Option.some.injEq] at hk; omega)
  refine RL.nil ?_
  refine Fin.next ?_
  refine CW.ret ?_
  refine Fin.retc rfl ag25 rfl rfl (hV9) ?_
  exact ⟨_, rfl, rfl, hE.then_mod hM9 (by omega)⟩

theorem toLock_any {w : World} {v : Value} {ss : List (List Int)} (hv : RdL w v ss) (hlen : sizeN ss ≤ 1048576) :
    Does Try.prog 25 #[v] w (fun v' w' => OwL w' w.heap.size w'.heap.size v' ss ∧ Ext w w') := by
  obtain ⟨vl, rfl, hl⟩ := hv
  refine enter Try.func25 rfl 9 Try.ntmps25 rfl (by kernel_rfl) ?_
  refine CW.seq ?_
  refine CW.region ?_
  refine RL.box (cs := [vl]) rfl rfl rfl (fun w1 hV1 hE1 => ?_)
  refine RL.alloc rfl ze28 (fun w2 hV2 hE2 => ?_)
  refine RL.nil ?_
  refine Fin.next ?_
  refine CW.seq ?_
  refine CW.region ?_
  refine RL.alloc rfl ze28 (fun w3 hV3 hE3 => ?_)
  have hl1 := hV1.lt
  have hl2 := hV2.lt
  have hl3 := hV3.lt
  have hE13 := (hE1.trans hE2).trans hE3
  refine RL.nil ?_
  refine Fin.next ?_
  refine CW.seq ?_
  refine CW.region ?_
  refine RL.y rfl (y_fa fa41_0 rfl rfl) ?_
  refine RL.y rfl (y_loadv sc26 (eqw ((hV1.ext hE2).ext hE3)) rfl rfl) ?_
  refine RL.call rfl (toInt64SS_any (hl.ext hE13) hlen) ?_
  rintro ur w4 ⟨ho4, hE4⟩
  have hone : ([ur] : List Value).all (·.oneCell') = true := by obtain ⟨_, hh⟩ := ho4; simp [slice_one hh.1.sv]
  refine RL.y rfl (y_fa fa28_0 rfl rfl) ?_
  refine RL.storev so26 (hV3.ext hE4) (by simp) rfl rfl ((by obtain ⟨_, hh⟩ := ho4; exact slice_one hh.1.sv)) (fun w5 hV5 hg5 => ?_)
  replace hV5 : VR w5 w2.heap.size [ur] := hV5
  have hs4 := hE4.size
  have hs5 := hg5.size
  have hM5 : Mod w2.heap.size (w2.heap.size + 1) w4 w5 := grown_mod hg5 (fun k hk => by simp only [Option.some.injEq] at hk; omega)
  have hV2' := ((hV2.ext hE3).ext hE4).mod hM5 (by omega)
  have hE15 : Ext w w5 := (hE13.trans hE4).then_mod hM5 (by omega)
  have ho5 := ho4.mod hM5 (by omega)
  refine RL.nil ?_
  refine Fin.next ?_
  refine CW.seq ?_
  refine CW.region ?_
  refine RL.y rfl (y_loads ag28 rfl (eqw (hV5)) rfl) ?_
  refine RL.stores ag28 (hV2') rfl rfl rfl rfl (hone) (fun w6 hV6 hg6 => ?_)
  replace hV6 : VR w6 w1.heap.size [ur] := hV6
  have hs6 := hg6.size
  have hM6 : Mod w1.heap.size (w1.heap.size + 1) w5 w6 := grown_mod hg6 (fun k hk => by simp only [Option.some.injEq] at hk; omega)
  have ho6 := ho5.mod hM6 (by omega)
  refine RL.nil ?_
  refine Fin.next ?_
  refine CW.ret ?_
  refine Fin.retc rfl ag28 rfl rfl (hV6) ?_
  exact ⟨_, rfl, ⟨ur, rfl, ho6.wide (by omega) (by omega) (Nat.le_refl _)⟩, hE15.then_mod hM6 (by omega)⟩

theorem eqLock_any {w : World} {b c : Value} {rs ss : List (List Int)} (hb : RdL w b rs) (hc : RdL w c ss) :
    Does Try.prog 28 #[b, c] w (fun r w' => r = .bool (decide (rs = ss)) ∧ Ext w w') := by
  obtain ⟨vl, rfl, h1⟩ := hb
  obtain ⟨ul, rfl, h2⟩ := hc
  refine enter Try.func28 rfl 11 Try.ntmps28 rfl (by kernel_rfl) ?_
  refine CW.seq ?_
  refine CW.region ?_
  refine RL.box (cs := [vl]) rfl rfl rfl (fun w1 hV1 hE1 => ?_)
  refine RL.box (cs := [ul]) rfl rfl rfl (fun w2 hV2 hE2 => ?_)
  have hE12 := hE1.trans hE2
  refine RL.y rfl (y_asg rfl) ?_
  refine RL.nil ?_
  refine Fin.next ?_
  refine CW.seq ?_
  refine CW.seq ?_
  refine CW.region ?_
  refine RL.y rfl (y_fa fa28_0 rfl rfl) ?_
  refine RL.y rfl (y_loadv sc26 (eqw (hV1.ext hE2)) rfl rfl) ?_
  refine RL.y rfl (y_fa fa28_0 rfl rfl) ?_
  refine RL.y rfl (y_loadv sc26 (eqw (hV2)) rfl rfl) ?_
  refine RL.call rfl (eqInt64SS_any (h1.ext hE12) (h2.ext hE12)) ?_
  rintro r w3 ⟨rfl, hE3⟩
  refine RL.y rfl (y_not rfl) ?_
  refine RL.nil ?_
  refine Fin.next ?_
  refine CW.cond rfl rfl (fun hc => ?_) (fun hc => ?_)
  · with_reducible first | (replace hc := deNF hc) | (replace hc := of_decide_eq_true hc) | (replace hc := of_decide_eq_false hc) | (replace hc := deNT hc) | (replace hc := deNN hc) | (replace hc := bnT hc) | (replace hc := bnF hc) | skip
    refine CW.seq ?_
    refine CW.region ?_
    refine RL.y rfl (y_asg rfl) ?_
    refine RL.nil ?_
    refine Fin.next ?_
    refine CW.ret ?_
    refine Fin.thenRet ?_
    refine Fin.ret1 rfl (by conv => lhs; whnf) ?_
    exact ⟨_, rfl, bF hc, hE12.trans hE3⟩
  · with_reducible first | (replace hc := deNF hc) | (replace hc := of_decide_eq_true hc) | (replace hc := of_decide_eq_false hc) | (replace hc := deNT hc) | (replace hc := deNN hc) | (replace hc := bnT hc) | (replace hc := bnF hc) | skip
    refine CW.skip ?_
    refine Fin.next ?_
    refine CW.seq ?_
    refine CW.region ?_
    refine RL.y rfl (y_asg rfl) ?_
    refine RL.nil ?_
    refine Fin.next ?_
    refine CW.ret ?_
    refine Fin.ret1 rfl (by conv => lhs; whnf) ?_
    exact ⟨_, rfl, bT hc, hE12.trans hE3⟩

theorem markLock_any {w : World} {B U : Nat} {v : Value} {ss : List (List Int)} {k0 : Int} (hv : OwL w B U v ss) (h0 : 0 ≤ k0) (hb : k0 + (tot ss : Nat) ≤ 4611686018427387904) :
    Does Try.prog 29 #[v, .int .i64 k0] w (fun r w' => r = .int .i64 (k0 + (tot ss : Nat)) ∧ OwL w' B U v (marksN ss k0) ∧ Mod B U w w') := by
  obtain ⟨vl, rfl, cs, ho⟩ := hv
  refine enter Try.func29 rfl 10 Try.ntmps29 rfl (by kernel_rfl) ?_
  refine CW.seq ?_
  refine CW.region ?_
  refine RL.box (cs := [vl]) rfl rfl rfl (fun w1 hV hE1 => ?_)
  refine RL.y rfl (y_asg rfl) ?_
  refine RL.nil ?_
  refine Fin.next ?_
  refine CW.seq ?_
  refine CW.region ?_
  refine RL.y rfl (y_fa fa28_0 rfl rfl) ?_
  refine RL.y rfl (y_loadv sc26 (eqw (hV)) rfl rfl) ?_
  refine RL.y rfl (y_mov (v := .int _ _) rfl) ?_
  refine RL.call rfl (markInt64SS_any (ho.ext hE1) h0 hb) ?_
  rintro r w2 ⟨rfl, ho2, hM2⟩
  refine RL.y rfl (y_asg (v := .int _ _) rfl) ?_
  refine RL.nil ?_
  refine Fin.next ?_
  refine CW.seq ?_
  refine CW.region ?_
  refine RL.y rfl (y_mov (v := .int _ _) rfl) ?_
  refine RL.y rfl (y_asg (v := .int _ _) rfl) ?_
  refine RL.nil ?_
  refine Fin.next ?_
  refine CW.ret ?_
  refine Fin.ret1 rfl (by conv => lhs; whnf) ?_
  exact ⟨_, rfl, rfl, ⟨vl, rfl, cs, ho2⟩, (hE1.mod B U).trans hM2⟩

theorem heldLock_any {w : World} {v : Value} {ss : List (List Int)} {k0 : Int} (hv : RdL w v ss) (h0 : 0 ≤ k0) (hb : k0 + (tot ss : Nat) ≤ 4611686018427387904) :
    Does Try.prog 34 #[v, .int .i64 k0] w (fun r w' => r = .int .i64 (heldLk ss k0) ∧ Ext w w') := by
  obtain ⟨vl, rfl, hl⟩ := hv
  refine enter Try.func34 rfl 12 Try.ntmps34 rfl (by kernel_rfl) ?_
  refine CW.seq ?_
  refine CW.region ?_
  refine RL.box (cs := [vl]) rfl rfl rfl (fun w1 hV hE1 => ?_)
  refine RL.y rfl (y_asg rfl) ?_
  refine RL.nil ?_
  refine Fin.next ?_
  refine CW.seq ?_
  refine CW.region ?_
  refine RL.y rfl (y_fa fa28_0 rfl rfl) ?_
  refine RL.y rfl (y_loadv sc26 (eqw (hV)) rfl rfl) ?_
  refine RL.y rfl (y_mov (v := .int _ _) rfl) ?_
  refine RL.call rfl (heldInt64SS_any (hl.ext hE1) h0 hb) ?_
  rintro r w2 ⟨rfl, hE2⟩
  refine RL.y rfl (y_asg (v := .int _ _) rfl) ?_
  refine RL.nil ?_
  refine Fin.next ?_
  refine CW.seq ?_
  refine CW.seq ?_
  refine CW.region ?_
  refine RL.y rfl (y_mov (v := .int _ _) rfl) ?_
  refine RL.y rfl (y_lt rfl rfl) ?_
  refine RL.nil ?_
  refine Fin.next ?_
  refine CW.cond rfl rfl (fun hc => ?_) (fun hc => ?_)
  · with_reducible first | (replace hc := deNF hc) | (replace hc := of_decide_eq_true hc) | (replace hc := of_decide_eq_false hc) | (replace hc := deNT hc) | (replace hc := deNN hc) | (replace hc := bnT hc) | (replace hc := bnF hc) | skip
    refine CW.seq ?_
    refine CW.region ?_
    refine RL.y rfl (y_asg rfl) ?_
    refine RL.nil ?_
    refine Fin.next ?_
    refine CW.ret ?_
    refine Fin.thenRet ?_
    refine Fin.ret1 rfl (by conv => lhs; whnf) ?_
    exact ⟨_, rfl, by unfold heldLk; rw [if_pos hc], hE1.trans hE2⟩
  · with_reducible first | (replace hc := deNF hc) | (replace hc := of_decide_eq_true hc) | (replace hc := of_decide_eq_false hc) | (replace hc := deNT hc) | (replace hc := deNN hc) | (replace hc := bnT hc) | (replace hc := bnF hc) | skip
    refine CW.skip ?_
    refine Fin.next ?_
    refine CW.seq ?_
    refine CW.region ?_
    refine RL.y rfl (y_mov (v := .int _ _) rfl) ?_
    refine RL.y rfl (y_asg (v := .int _ _) rfl) ?_
    refine RL.nil ?_
    refine Fin.next ?_
    refine CW.ret ?_
    refine Fin.ret1 rfl (by conv => lhs; whnf) ?_
    exact ⟨_, rfl, by unfold heldLk; rw [if_neg hc], hE1.trans hE2⟩

/-- 'mark' on a lock that a call has made. -/
theorem markL_own {w : World} {B U : Nat} {v : Value} {ss : List (List Int)} {k0 : Int} (hv : OwL w B U v ss) (h0 : 0 ≤ k0) (hb : k0 + (tot ss : Nat) ≤ 4611686018427387904) :
    Does Try.prog 29 #[v, .int .i64 k0] w (fun r w' => ∃ rs' k', r = .int .i64 k' ∧ OwL w' B U v rs' ∧ heldLk rs' k0 = k' ∧ k' = k0 + (tot ss : Nat) ∧ tot rs' = tot ss ∧ Mod B U w w') :=
  (markLock_any hv h0 hb).mono fun r w' ⟨hr, ho, hM⟩ => ⟨marksN ss k0, _, hr, ho, heldLk_marks _ _ h0, rfl, marksN_tot _ _, hM⟩
end Go.Proofs.Ytaepdknmagaokaa
