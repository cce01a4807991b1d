/-
  Buildings: the ways up, the codes, the doors under a node.
-/
import Derived.Test.YtebegkegkdmbjaaFBld2
namespace Go.Proofs.Ytebegkegkdmbjaa
open B Go.RowKit

theorem l09Ancestors_any {w : World} {b : Value} {ps : List Int} {ds : List Bool} {x : Int} (hb : RdB w b ps ds) (ht : tree ps) (hx : x < ps.length) (hl : ps.length ≤ 24) :
    Does Try.prog 44 #[b, .int .i64 x] w (fun v' w' => OV w' w.heap.size 2 v' (ints (ancs ps x)) ∧ Ext w w') := by
  obtain ⟨vp, vd, rfl, hp, hd⟩ := hb
  have hal := ancs_len ht 24 x hx (by omega)
  refine enter Try.func44 rfl 19 Try.ntmps44 rfl (by kernel_rfl) ?_
  refine CW.seq ?_
  refine CW.region ?_
  refine RL.box (cs := [vp, vd]) rfl rfl rfl (fun w1 hV hE1 => ?_)
  refine RL.y rfl (y_asg rfl) ?_
  refine RL.nil ?_
  refine Fin.next ?_
  refine CW.seq ?_
  refine CW.region ?_
  refine RL.lit0 rfl sT22 (fun vo w2 ho2 hE2 hb2 => ?_)
  refine RL.y rfl (y_asg (by conv => lhs; whnf)) ?_
  refine RL.nil ?_
  refine Fin.next ?_
  refine CW.seq ?_
  refine CW.block ?_
  refine CW.loop (fun m E w' => ∃ (z : Int) (xs : List Int) (vo : Value), m = (z + 1).toNat ∧ z < ps.length ∧ agrees E [(2, .pointer (some ⟨w.heap.size, 0, none⟩)), (5, vo), (1, .int .i64 z)] ∧ xs ++ ancs ps z = ancs ps x ∧ OV w' w1.heap.size 2 vo (ints xs) ∧ Ext w1 w') _ (⟨x, [], vo, rfl, hx, ⟨rfl, rfl, rfl, trivial⟩, rfl, ho2, hE2⟩) ?_
  · rintro m E w3 ⟨z, xs, vo, rfl, hz, hag, heq, ho3, hE3⟩
    refine CW.re _ hag rfl ?_
    have hlen : xs.length + (ancs ps z).length = (ancs ps x).length := by rw [← List.length_append, heq]
    refine CW.seq ?_
    refine CW.seq ?_
    refine CW.region ?_
    refine RL.y rfl (y_mov (v := .int _ _) rfl) ?_
    refine RL.y rfl (y_ge rfl rfl) ?_
    refine RL.nil ?_
    refine Fin.next ?_
    refine CW.cond rfl rfl (fun h0 => ?_) (fun h0 => ?_)
    · with_reducible first | (replace h0 := deNF h0) | (replace h0 := of_decide_eq_true h0) | (replace h0 := of_decide_eq_false h0) | (replace h0 := deNT h0) | (replace h0 := deNN h0) | (replace h0 := bnT h0) | (replace h0 := bnF h0) | skip
      have hzn : z.toNat < ps.length := by omega
      have hst := ht z.toNat hzn
      have hpz : par ps z.toNat = ps[z.toNat] := getD_lt hzn
      refine CW.skip ?_
      refine Fin.next ?_
      refine CW.block ?_
      refine CW.seq ?_
      refine CW.region ?_
      refine RL.y rfl (y_mov (by conv => lhs; whnf)) ?_
      refine RL.y rfl (y_mov (v := .int _ _) rfl) ?_
      refine RL.app1i rfl rfl sT22 (by omega) ho3 (by omega) hE3.size rfl (fun _ => rfl) (fun u v6 w6 ho6 hg6 hn6 => ?_)
      have hE6 : Ext w1 w6 := hE3.grown hg6 (fun b hb => (ho3.lt b hb).1)
      refine RL.y rfl (y_asg (by conv => lhs; whnf)) ?_
      refine RL.nil ?_
      refine Fin.next ?_
      refine CW.region ?_
      refine RL.y rfl (y_fa fa28_0 rfl rfl) ?_
      refine RL.y rfl (y_loadv sc22 (eqw (hV.ext hE6)) rfl rfl) ?_
      refine RL.y rfl (y_mov (v := .int _ _) rfl) ?_
      refine RL.y rfl (y_ixi sT22 (eqw (hp.ext (hE1.trans hE6))) h0 (by rw [ints_len]; omega) rfl rfl) ?_
      refine RL.y rfl (y_load sc2 (eqw (hp.ext (hE1.trans hE6))) (ints_at hzn) rfl) ?_
      refine RL.y rfl (y_asg (v := .int _ _) rfl) ?_
      refine RL.nil ?_
      refine Fin.blockNormal ?_
      refine Fin.le ?_
      exact ⟨(ps[z.toNat] + 1).toNat, by omega, ps[z.toNat], xs ++ [z], v6, rfl, by omega, ⟨rfl, rfl, rfl, trivial⟩, by rw [← heq, ancs_cons ht h0 hz, hpz]; simp, ho6, hE6⟩
    · with_reducible first | (replace h0 := deNF h0) | (replace h0 := of_decide_eq_true h0) | (replace h0 := of_decide_eq_false h0) | (replace h0 := deNT h0) | (replace h0 := deNN h0) | (replace h0 := bnT h0) | (replace h0 := bnF h0) | skip
      rw [ancs_neg (show z < 0 by omega), List.append_nil] at heq
      subst heq
      refine CW.exit ?_
      refine Fin.thenExit ?_
      refine Fin.thenExit ?_
      refine Fin.blockHit ?_
      refine Fin.next ?_
      refine CW.seq ?_
      refine CW.region ?_
      refine RL.y rfl (y_mov (by conv => lhs; whnf)) ?_
      refine RL.y rfl (y_asg (by conv => lhs; whnf)) ?_
      refine RL.nil ?_
      refine Fin.next ?_
      refine CW.ret ?_
      refine Fin.ret1 rfl (by conv => lhs; whnf) ?_
      exact ⟨_, rfl, ho3.mono hE1.size, hE1.trans hE3⟩

theorem ancestorsOf_any {w : World} {b : Value} {ps : List Int} {ds : List Bool} {x : Int} (hb : RdB w b ps ds) (ht : tree ps) (hx : x < ps.length) (hl : ps.length ≤ 24) :
    Does Try.prog 46 #[b, .int .i64 x] w (fun v' w' => OV w' w.heap.size 2 v' (ints (ancs ps x)) ∧ Ext w w') := by
  obtain ⟨vp, vd, rfl, hp, hd⟩ := hb
  have hal := ancs_len ht 24 x hx (by omega)
  refine enter Try.func46 rfl 19 Try.ntmps46 rfl (by kernel_rfl) ?_
  refine CW.seq ?_
  refine CW.region ?_
  refine RL.box (cs := [vp, vd]) rfl rfl rfl (fun w1 hV hE1 => ?_)
  refine RL.y rfl (y_asg rfl) ?_
  refine RL.nil ?_
  refine Fin.next ?_
  refine CW.seq ?_
  refine CW.region ?_
  refine RL.lit0 rfl sT22 (fun vo w2 ho2 hE2 hb2 => ?_)
  refine RL.y rfl (y_asg (by conv => lhs; whnf)) ?_
  refine RL.nil ?_
  refine Fin.next ?_
  refine CW.seq ?_
  refine CW.block ?_
  refine CW.loop (fun m E w' => ∃ (z : Int) (xs : List Int) (vo : Value), m = (z + 1).toNat ∧ z < ps.length ∧ agrees E [(2, .pointer (some ⟨w.heap.size, 0, none⟩)), (5, vo), (1, .int .i64 z)] ∧ xs ++ ancs ps z = ancs ps x ∧ OV w' w1.heap.size 2 vo (ints xs) ∧ Ext w1 w') _ (⟨x, [], vo, rfl, hx, ⟨rfl, rfl, rfl, trivial⟩, rfl, ho2, hE2⟩) ?_
  · rintro m E w3 ⟨z, xs, vo, rfl, hz, hag, heq, ho3, hE3⟩
    refine CW.re _ hag rfl ?_
    have hlen : xs.length + (ancs ps z).length = (ancs ps x).length := by rw [← List.length_append, heq]
    refine CW.seq ?_
    refine CW.seq ?_
    refine CW.region ?_
    refine RL.y rfl (y_mov (v := .int _ _) rfl) ?_
    refine RL.y rfl (y_ge rfl rfl) ?_
    refine RL.nil ?_
    refine Fin.next ?_
    refine CW.cond rfl rfl (fun h0 => ?_) (fun h0 => ?_)
    · with_reducible first | (replace h0 := deNF h0) | (replace h0 := of_decide_eq_true h0) | (replace h0 := of_decide_eq_false h0) | (replace h0 := deNT h0) | (replace h0 := deNN h0) | (replace h0 := bnT h0) | (replace h0 := bnF h0) | skip
      have hzn : z.toNat < ps.length := by omega
      have hst := ht z.toNat hzn
      have hpz : par ps z.toNat = ps[z.toNat] := getD_lt hzn
      refine CW.skip ?_
      refine Fin.next ?_
      refine CW.seq ?_
      refine CW.block ?_
      refine CW.region ?_
      refine RL.y rfl (y_mov (by conv => lhs; whnf)) ?_
      refine RL.y rfl (y_mov (v := .int _ _) rfl) ?_
      refine RL.app1i rfl rfl sT22 (by omega) ho3 (by omega) hE3.size rfl (fun _ => rfl) (fun u v6 w6 ho6 hg6 hn6 => ?_)
      have hE6 : Ext w1 w6 := hE3.grown hg6 (fun b hb => (ho3.lt b hb).1)
      refine RL.y rfl (y_asg (by conv => lhs; whnf)) ?_
      refine RL.nil ?_
      refine Fin.blockNormal ?_
      refine Fin.next ?_
      refine CW.region ?_
      refine RL.y rfl (y_fa fa28_0 rfl rfl) ?_
      refine RL.y rfl (y_loadv sc22 (eqw (hV.ext hE6)) rfl rfl) ?_
      refine RL.y rfl (y_mov (v := .int _ _) rfl) ?_
      refine RL.y rfl (y_ixi sT22 (eqw (hp.ext (hE1.trans hE6))) h0 (by rw [ints_len]; omega) rfl rfl) ?_
      refine RL.y rfl (y_load sc2 (eqw (hp.ext (hE1.trans hE6))) (ints_at hzn) rfl) ?_
      refine RL.y rfl (y_asg (v := .int _ _) rfl) ?_
      refine RL.nil ?_
      refine Fin.le ?_
      exact ⟨(ps[z.toNat] + 1).toNat, by omega, ps[z.toNat], xs ++ [z], v6, rfl, by omega, ⟨rfl, rfl, rfl, trivial⟩, by rw [← heq, ancs_cons ht h0 hz, hpz]; simp, ho6, hE6⟩
    · with_reducible first | (replace h0 := deNF h0) | (replace h0 := of_decide_eq_true h0) | (replace h0 := of_decide_eq_false h0) | (replace h0 := deNT h0) | (replace h0 := deNN h0) | (replace h0 := bnT h0) | (replace h0 := bnF h0) | skip
      rw [ancs_neg (show z < 0 by omega), List.append_nil] at heq
      subst heq
      refine CW.exit ?_
      refine Fin.thenExit ?_
      refine Fin.thenExit ?_
      refine Fin.blockHit ?_
      refine Fin.next ?_
      refine CW.seq ?_
      refine CW.region ?_
      refine RL.y rfl (y_mov (by conv => lhs; whnf)) ?_
      refine RL.y rfl (y_asg (by conv => lhs; whnf)) ?_
      refine RL.nil ?_
      refine Fin.next ?_
      refine CW.ret ?_
      refine Fin.ret1 rfl (by conv => lhs; whnf) ?_
      exact ⟨_, rfl, ho3.mono hE1.size, hE1.trans hE3⟩

theorem l09Node_any {w : World} {b : Value} {ps : List Int} {ds : List Bool} {x : Int} (hb : RdB w b ps ds) :
    Does Try.prog 47 #[b, .int .i64 x] w (fun r w' => r = .bool (decide (0 ≤ x ∧ x ≤ (ps.length : Int) - 1)) ∧ Ext w w') := by
  obtain ⟨vp, vd, rfl, hp, hd⟩ := hb
  have hpl := SI.le hp
  refine enter Try.func47 rfl 11 Try.ntmps47 rfl (by kernel_rfl) ?_
  refine CW.seq ?_
  refine CW.region ?_
  refine RL.box (cs := [vp, vd]) rfl rfl rfl (fun w1 hV hE1 => ?_)
  refine RL.y rfl (y_asg rfl) ?_
  refine RL.nil ?_
  refine Fin.next ?_
  refine CW.seq ?_
  refine CW.region ?_
  refine RL.y rfl (y_mov (v := .int _ _) rfl) ?_
  refine RL.y rfl (y_fa fa28_0 rfl rfl) ?_
  refine RL.y rfl (y_loadv sc22 (eqw (hV)) rfl rfl) ?_
  refine RL.y rfl (y_len sT22 hp (ints_len _) rfl) ?_
  refine RL.y rfl (y_sub rfl rfl (IntWalk.i64_in _ (by omega))) ?_
  refine RL.call rfl (l01In_any) ?_
  rintro r w2 ⟨rfl, rfl⟩
  refine RL.y rfl (y_asg (v := .bool _) rfl) ?_
  refine RL.nil ?_
  refine Fin.next ?_
  refine CW.ret ?_
  refine Fin.ret1 rfl (by conv => lhs; whnf) ?_
  exact ⟨_, rfl, rfl, hE1⟩

theorem l09Code_any {w : World} {b : Value} {ps : List Int} {ds : List Bool} {x : Int} (hb : RdB w b ps ds) :
    Does Try.prog 50 #[b, .int .i64 x] w (fun r w' => r = .int .i64 (ncC ps ds [x]) ∧ Ext w w') := by
  have hb0 := hb
  obtain ⟨vp, vd, rfl, hp, hd⟩ := hb
  refine enter Try.func50 rfl 12 Try.ntmps50 rfl (by kernel_rfl) ?_
  refine CW.seq ?_
  refine CW.region ?_
  refine RL.box (cs := [vp, vd]) rfl rfl rfl (fun w1 hV hE1 => ?_)
  refine RL.y rfl (y_asg rfl) ?_
  refine RL.nil ?_
  refine Fin.next ?_
  refine CW.seq ?_
  refine CW.seq ?_
  refine CW.region ?_
  refine RL.y rfl (y_loads ag28 rfl (eqw (hV)) rfl) ?_
  refine RL.call rfl (specIsBuilding_any (hb0.ext hE1)) ?_
  rintro r w2 ⟨rfl, hE2⟩
  have hE12 := hE1.trans hE2
  refine RL.y rfl (y_not rfl) ?_
  refine RL.nil ?_
  refine Fin.next ?_
  refine CW.cond rfl rfl (fun h1 => ?_) (fun h1 => ?_)
  · with_reducible first | (replace h1 := deNF h1) | (replace h1 := of_decide_eq_true h1) | (replace h1 := of_decide_eq_false h1) | (replace h1 := deNT h1) | (replace h1 := deNN h1) | (replace h1 := bnT h1) | (replace h1 := bnF h1) | skip
    refine CW.seq ?_
    refine CW.region ?_
    refine RL.y rfl (y_asg rfl) ?_
    refine RL.nil ?_
    refine Fin.next ?_
    refine CW.ret ?_
    refine Fin.thenRet ?_
    refine Fin.ret1 rfl (by conv => lhs; whnf) ?_
    exact ⟨_, rfl, by unfold ncC; rw [if_neg h1], hE12⟩
  · with_reducible first | (replace h1 := deNF h1) | (replace h1 := of_decide_eq_true h1) | (replace h1 := of_decide_eq_false h1) | (replace h1 := deNT h1) | (replace h1 := deNN h1) | (replace h1 := bnT h1) | (replace h1 := bnF h1) | skip
    refine CW.skip ?_
    refine Fin.next ?_
    refine CW.seq ?_
    refine CW.seq ?_
    refine CW.region ?_
    refine RL.y rfl (y_loads ag28 rfl (eqw (hV.ext hE2)) rfl) ?_
    refine RL.y rfl (y_mov (v := .int _ _) rfl) ?_
    refine RL.call rfl (l09Node_any (hb0.ext hE12)) ?_
    rintro r w3 ⟨rfl, hE3⟩
    refine RL.y rfl (y_not rfl) ?_
    refine RL.nil ?_
    refine Fin.next ?_
    refine CW.cond rfl rfl (fun h2 => ?_) (fun h2 => ?_)
    · with_reducible first | (replace h2 := deNF h2) | (replace h2 := of_decide_eq_true h2) | (replace h2 := of_decide_eq_false h2) | (replace h2 := deNT h2) | (replace h2 := deNN h2) | (replace h2 := bnT h2) | (replace h2 := bnF h2) | skip
      refine CW.seq ?_
      refine CW.region ?_
      refine RL.y rfl (y_asg rfl) ?_
      refine RL.nil ?_
      refine Fin.next ?_
      refine CW.ret ?_
      refine Fin.thenRet ?_
      refine Fin.ret1 rfl (by conv => lhs; whnf) ?_
      exact ⟨_, rfl, by unfold ncC; rw [if_pos h1, if_neg (fun h => h2 (h x (by simp)))], hE12.trans hE3⟩
    · with_reducible first | (replace h2 := deNF h2) | (replace h2 := of_decide_eq_true h2) | (replace h2 := of_decide_eq_false h2) | (replace h2 := deNT h2) | (replace h2 := deNN h2) | (replace h2 := bnT h2) | (replace h2 := bnF h2) | skip
      refine CW.skip ?_
      refine Fin.next ?_
      refine CW.seq ?_
      refine CW.region ?_
      refine RL.y rfl (y_asg rfl) ?_
      refine RL.nil ?_
      refine Fin.next ?_
      refine CW.ret ?_
      refine Fin.ret1 rfl (by conv => lhs; whnf) ?_
      exact ⟨_, rfl, by unfold ncC; rw [if_pos h1, if_pos (by simpa using h2)], hE12.trans hE3⟩

theorem nodeCode_any {w : World} {b u : Value} {ps : List Int} {ds : List Bool} {ks : List Int} (hb : RdB w b ps ds) (hu : SI w u ks) :
    Does Try.prog 45 #[b, u] w (fun r w' => r = .int .i64 (ncC ps ds ks) ∧ Ext w w') := by
  have hb0 := hb
  obtain ⟨vp, vd, rfl, hp, hd⟩ := hb
  have hpl := SI.le hp
  refine enter Try.func45 rfl 15 Try.ntmps45 rfl (by kernel_rfl) ?_
  refine CW.seq ?_
  refine CW.region ?_
  refine RL.box (cs := [vp, vd]) rfl rfl rfl (fun w1 hV hE1 => ?_)
  refine RL.y rfl (y_asg rfl) ?_
  refine RL.nil ?_
  refine Fin.next ?_
  refine CW.seq ?_
  refine CW.seq ?_
  refine CW.region ?_
  refine RL.y rfl (y_loads ag28 rfl (eqw (hV)) rfl) ?_
  refine RL.call rfl (implIsBuilding_any (hb0.ext hE1)) ?_
  rintro r w2 ⟨rfl, hE2⟩
  have hE12 := hE1.trans hE2
  refine RL.y rfl (y_not rfl) ?_
  refine RL.nil ?_
  refine Fin.next ?_
  refine CW.cond rfl rfl (fun h1 => ?_) (fun h1 => ?_)
  · with_reducible first | (replace h1 := deNF h1) | (replace h1 := of_decide_eq_true h1) | (replace h1 := of_decide_eq_false h1) | (replace h1 := deNT h1) | (replace h1 := deNN h1) | (replace h1 := bnT h1) | (replace h1 := bnF h1) | skip
    refine CW.seq ?_
    refine CW.region ?_
    refine RL.y rfl (y_asg rfl) ?_
    refine RL.nil ?_
    refine Fin.next ?_
    refine CW.ret ?_
    refine Fin.thenRet ?_
    refine Fin.ret1 rfl (by conv => lhs; whnf) ?_
    exact ⟨_, rfl, by unfold ncC; rw [if_neg h1], hE12⟩
  · with_reducible first | (replace h1 := deNF h1) | (replace h1 := of_decide_eq_true h1) | (replace h1 := of_decide_eq_false h1) | (replace h1 := deNT h1) | (replace h1 := deNN h1) | (replace h1 := bnT h1) | (replace h1 := bnF h1) | skip
    refine CW.skip ?_
    refine Fin.next ?_
    refine CW.seq ?_
    refine CW.seq ?_
    refine CW.region ?_
    refine RL.y rfl (y_mov (by conv => lhs; whnf)) ?_
    refine RL.y rfl (y_fa fa28_0 rfl rfl) ?_
    refine RL.y rfl (y_loadv sc22 (eqw (hV.ext hE2)) rfl rfl) ?_
    refine RL.y rfl (y_len sT22 hp (ints_len _) rfl) ?_
    refine RL.y rfl (y_sub rfl rfl (IntWalk.i64_in _ (by omega))) ?_
    refine RL.call rfl (allWithin_any (hu.ext hE12)) ?_
    rintro r w3 ⟨rfl, rfl⟩
    refine RL.y rfl (y_not rfl) ?_
    refine RL.nil ?_
    refine Fin.next ?_
    refine CW.cond rfl rfl (fun h2 => ?_) (fun h2 => ?_)
    · with_reducible first | (replace h2 := deNF h2) | (replace h2 := of_decide_eq_true h2) | (replace h2 := of_decide_eq_false h2) | (replace h2 := deNT h2) | (replace h2 := deNN h2) | (replace h2 := bnT h2) | (replace h2 := bnF h2) | skip
      refine CW.seq ?_
      refine CW.region ?_
      refine RL.y rfl (y_asg rfl) ?_
      refine RL.nil ?_
      refine Fin.next ?_
      refine CW.ret ?_
      refine Fin.thenRet ?_
      refine Fin.ret1 rfl (by conv => lhs; whnf) ?_
      exact ⟨_, rfl, by unfold ncC; rw [if_pos h1, if_neg h2], hE12⟩
    · with_reducible first | (replace h2 := deNF h2) | (replace h2 := of_decide_eq_true h2) | (replace h2 := of_decide_eq_false h2) | (replace h2 := deNT h2) | (replace h2 := deNN h2) | (replace h2 := bnT h2) | (replace h2 := bnF h2) | skip
      refine CW.skip ?_
      refine Fin.next ?_
      refine CW.seq ?_
      refine CW.region ?_
      refine RL.y rfl (y_asg rfl) ?_
      refine RL.nil ?_
      refine Fin.next ?_
      refine CW.ret ?_
      refine Fin.ret1 rfl (by conv => lhs; whnf) ?_
      exact ⟨_, rfl, by unfold ncC; rw [if_pos h1, if_pos h2], hE12⟩

theorem l09Doors_any {w : World} {b : Value} {ps : List Int} {ds : List Bool} {y : Int} (hb : RdB w b ps ds) (hbl : bld ps ds) :
    Does Try.prog 52 #[b, .int .i64 y] w (fun v' w' => OV w' w.heap.size 2 v' (ints (doorsU ps ds y)) ∧ Ext w w') := by
  have hb0 := hb
  obtain ⟨vp, vd, rfl, hp, hd⟩ := hb
  have ht := bld_tree hbl
  have h24 := hbl.1.1
  have hdl := hbl.1.2.1
  refine enter Try.func52 rfl 31 Try.ntmps52 rfl (by kernel_rfl) ?_
  refine CW.seq ?_
  refine CW.region ?_
  refine RL.box (cs := [vp, vd]) rfl rfl rfl (fun w1 hV hE1 => ?_)
  refine RL.y rfl (y_asg rfl) ?_
  refine RL.nil ?_
  refine Fin.next ?_
  refine CW.seq ?_
  refine CW.region ?_
  refine RL.lit0 rfl sT22 (fun vo w2 ho2 hE2 hb2 => ?_)
  refine RL.y rfl (y_asg (by conv => lhs; whnf)) ?_
  refine RL.nil ?_
  refine Fin.next ?_
  refine CW.seq ?_
  refine CW.seq ?_
  refine CW.region ?_
  refine RL.y rfl (y_asg rfl) ?_
  refine RL.nil ?_
  refine Fin.next ?_
  refine CW.block ?_
  refine CW.loop (fun m E w' => ∃ (i : Nat) (vo : Value), m = ps.length - i ∧ i ≤ ps.length ∧ agrees E [(2, .pointer (some ⟨w.heap.size, 0, none⟩)), (5, vo), (1, .int .i64 y), (6, .int .i64 (i : Int))] ∧ OV w' w1.heap.size 2 vo (ints (idxs (dUnder ps ds y) i)) ∧ Ext w1 w') _ (⟨0, vo, rfl, Nat.zero_le _, ⟨rfl, rfl, rfl, rfl, trivial⟩, ho2, hE2⟩) ?_
  · rintro m E w3 ⟨i, vo, rfl, hi, hag, ho3, hE3⟩
    refine CW.re _ hag rfl ?_
    have hle := idxs_le (dUnder ps ds y) i
    have hE13 := hE1.trans hE3
    refine CW.seq ?_
    refine CW.seq ?_
    refine CW.region ?_
    refine RL.y rfl (y_mov (v := .int _ _) rfl) ?_
    refine RL.y rfl (y_fa fa28_1 rfl rfl) ?_
    refine RL.y rfl (y_loadv sc23 (eqw (hV.ext hE3)) rfl rfl) ?_
    refine RL.y rfl (y_len sT23 hd ((bools_len _).trans hdl) rfl) ?_
    refine RL.y rfl (y_lt rfl rfl) ?_
    refine RL.nil ?_
    refine Fin.next ?_
    refine CW.cond rfl rfl (fun hc => ?_) (fun hc => ?_)
    · with_reducible first | (replace hc := deNF hc) | (replace hc := of_decide_eq_true hc) | (replace hc := of_decide_eq_false hc) | (replace hc := deNT hc) | (replace hc := deNN hc) | (replace hc := bnT hc) | (replace hc := bnF hc) | skip
      have hlt : i < ps.length := by omega
      have hltd : i < ds.length := by omega
      have hds : isD ds i = ds[i] := getD_lt hltd
      refine CW.skip ?_
      refine Fin.next ?_
      refine CW.seq ?_
      refine CW.block ?_
      refine CW.seq ?_
      refine CW.region ?_
      refine RL.y rfl (y_fa fa28_1 rfl rfl) ?_
      refine RL.y rfl (y_loadv sc23 (eqw (hV.ext hE3)) rfl rfl) ?_
      refine RL.y rfl (y_mov (v := .int _ _) rfl) ?_
      refine RL.y rfl (y_ixa sT23 (eqw (hd.ext hE13)) (k := i) (bools_lt hltd) rfl rfl) ?_
      refine RL.y rfl (y_load sc4 (eqw (hd.ext hE13)) (bools_at hltd) rfl) ?_
      refine RL.y rfl (y_mov (v := .bool _) rfl) ?_
      refine RL.split (t := 20) rfl rfl (fun h1 => ?_) (fun h1 => ?_)
      · with_reducible first | (replace h1 := deNF h1) | (replace h1 := of_decide_eq_true h1) | (replace h1 := of_decide_eq_false h1) | (replace h1 := deNT h1) | (replace h1 := deNN h1) | (replace h1 := bnT h1) | (replace h1 := bnF h1) | skip
        refine RL.take (t := 20) rfl rfl rfl ?_
        refine RL.y rfl (y_loads ag28 rfl (eqw (hV.ext hE3)) rfl) ?_
        refine RL.take (t := 20) rfl rfl rfl ?_
        refine RL.y rfl (y_mov (v := .int _ _) rfl) ?_
        refine RL.take (t := 20) rfl rfl rfl ?_
        refine RL.y rfl (y_mov (v := .int _ _) rfl) ?_
        refine RL.take (t := 20) rfl rfl rfl ?_
        refine RL.call rfl (l09Under_any (hb0.ext hE13) ht (by omega) h24.2) ?_
        rintro r w4 ⟨rfl, hE4⟩
        refine RL.y rfl (y_pickT (v := .bool _) rfl rfl) ?_
        refine RL.nil ?_
        refine Fin.next ?_
        refine CW.cond rfl rfl (fun h2 => ?_) (fun h2 => ?_)
        · with_reducible first | (replace h2 := deNF h2) | (replace h2 := of_decide_eq_true h2) | (replace h2 := of_decide_eq_false h2) | (replace h2 := deNT h2) | (replace h2 := deNN h2) | (replace h2 := bnT h2) | (replace h2 := bnF h2) | skip
          have hpy : dUnder ps ds y i = true := by unfold dUnder; rw [hds, h1, decide_eq_true h2]; rfl
          refine CW.region ?_
          refine RL.y rfl (y_mov (by conv => lhs; whnf)) ?_
          refine RL.y rfl (y_mov (v := .int _ _) rfl) ?_
          refine RL.app1i rfl rfl sT22 (by omega) (ho3.ext hE4) (by omega) (hE3.trans hE4).size rfl (fun _ => rfl) (fun u v6 w6 ho6 hg6 hn6 => ?_)
          refine RL.y rfl (y_asg (by conv => lhs; whnf)) ?_
          refine RL.nil ?_
          refine Fin.blockNormal ?_
          refine Fin.next ?_
          refine CW.region ?_
          refine RL.y rfl (y_mov (v := .int _ _) rfl) ?_
          refine RL.y rfl (y_add rfl rfl (IntWalk.i64_in _ (by omega))) ?_
          refine RL.y rfl (y_asg (v := .int _ _) rfl) ?_
          refine RL.nil ?_
          refine Fin.le ?_
          exact ⟨ps.length - (i + 1), by omega, i + 1, v6, rfl, hlt, ⟨rfl, rfl, rfl, rfl, trivial⟩, by rw [idxs_yes hpy]; exact ho6, (hE3.trans hE4).grown hg6 (fun b hb => (ho3.lt b hb).1)⟩
        · with_reducible first | (replace h2 := deNF h2) | (replace h2 := of_decide_eq_true h2) | (replace h2 := of_decide_eq_false h2) | (replace h2 := deNT h2) | (replace h2 := deNN h2) | (replace h2 := bnT h2) | (replace h2 := bnF h2) | skip
          have hpn : dUnder ps ds y i = false := by unfold dUnder; rw [decide_eq_false h2, Bool.and_false]
          refine CW.skip ?_
          refine Fin.blockNormal ?_
          refine Fin.next ?_
          refine CW.region ?_
          refine RL.y rfl (y_mov (v := .int _ _) rfl) ?_
          refine RL.y rfl (y_add rfl rfl (IntWalk.i64_in _ (by omega))) ?_
          refine RL.y rfl (y_asg (v := .int _ _) rfl) ?_
          refine RL.nil ?_
          refine Fin.le ?_
          exact ⟨ps.length - (i + 1), by omega, i + 1, vo, rfl, hlt, ⟨rfl, rfl, rfl, rfl, trivial⟩, by rw [idxs_no hpn]; exact ho3.ext hE4, hE3.trans hE4⟩
      · with_reducible first | (replace h1 := deNF h1) | (replace h1 := of_decide_eq_true h1) | (replace h1 := of_decide_eq_false h1) | (replace h1 := deNT h1) | (replace h1 := deNN h1) | (replace h1 := bnT h1) | (replace h1 := bnF h1) | skip
        have hpn : dUnder ps ds y i = false := by unfold dUnder; rw [hds, h1, Bool.false_and]
        refine RL.pass (t := 20) rfl rfl rfl rfl ?_
        refine RL.pass (t := 20) rfl rfl rfl rfl ?_
        refine RL.pass (t := 20) rfl rfl rfl rfl ?_
        refine RL.pass (t := 20) rfl rfl rfl rfl ?_
        refine RL.y rfl (y_pickF (v := .bool _) rfl rfl) ?_
        refine RL.nil ?_
        refine Fin.next ?_
        refine CW.condF rfl rfl ?_
        refine CW.skip ?_
        refine Fin.blockNormal ?_
        refine Fin.next ?_
        refine CW.region ?_
        refine RL.y rfl (y_mov (v := .int _ _) rfl) ?_
        refine RL.y rfl (y_add rfl rfl (IntWalk.i64_in _ (by omega))) ?_
        refine RL.y rfl (y_asg (v := .int _ _) rfl) ?_
        refine RL.nil ?_
        refine Fin.le ?_
        exact ⟨ps.length - (i + 1), by omega, i + 1, vo, rfl, hlt, ⟨rfl, rfl, rfl, rfl, trivial⟩, by rw [idxs_no hpn]; exact ho3, hE3⟩
    · with_reducible first | (replace hc := deNF hc) | (replace hc := of_decide_eq_true hc) | (replace hc := of_decide_eq_false hc) | (replace hc := deNT hc) | (replace hc := deNN hc) | (replace hc := bnT hc) | (replace hc := bnF hc) | skip
      obtain rfl : i = ps.length := by omega
      refine CW.exit ?_
      refine Fin.thenExit ?_
      refine Fin.thenExit ?_
      refine Fin.blockHit ?_
      refine Fin.next ?_
      refine CW.seq ?_
      refine CW.region ?_
      refine RL.y rfl (y_mov (by conv => lhs; whnf)) ?_
      refine RL.y rfl (y_asg (by conv => lhs; whnf)) ?_
      refine RL.nil ?_
      refine Fin.next ?_
      refine CW.ret ?_
      refine Fin.ret1 rfl (by conv => lhs; whnf) ?_
      exact ⟨_, rfl, ho3.mono hE1.size, hE13⟩

theorem doorsUnder_any {w : World} {b : Value} {ps : List Int} {ds : List Bool} {y : Int} (hb : RdB w b ps ds) (hbl : bld ps ds) (hy : 0 ≤ y) :
    Does Try.prog 53 #[b, .int .i64 y] w (fun v' w' => OV w' w.heap.size 2 v' (ints (doorsU ps ds y)) ∧ Ext w w') := by
  have hb0 := hb
  obtain ⟨vp, vd, rfl, hp, hd⟩ := hb
  have ht := bld_tree hbl
  have h24 := hbl.1.1
  have hdl := hbl.1.2.1
  refine enter Try.func53 rfl 30 Try.ntmps53 rfl (by kernel_rfl) ?_
  refine CW.seq ?_
  refine CW.region ?_
  refine RL.box (cs := [vp, vd]) rfl rfl rfl (fun w1 hV hE1 => ?_)
  refine RL.y rfl (y_asg rfl) ?_
  refine RL.nil ?_
  refine Fin.next ?_
  refine CW.seq ?_
  refine CW.region ?_
  refine RL.lit0 rfl sT22 (fun vo w2 ho2 hE2 hb2 => ?_)
  refine RL.y rfl (y_asg (by conv => lhs; whnf)) ?_
  refine RL.nil ?_
  refine Fin.next ?_
  refine CW.seq ?_
  refine CW.seq ?_
  refine CW.region ?_
  refine RL.y rfl (y_fa fa28_1 rfl rfl) ?_
  refine RL.y rfl (y_loadv sc23 (eqw (hV.ext hE2)) rfl rfl) ?_
  refine RL.y rfl (y_len sT23 hd ((bools_len _).trans hdl) rfl) ?_
  refine RL.y rfl (y_mov rfl) ?_
  refine RL.nil ?_
  refine Fin.next ?_
  refine CW.block ?_
  refine CW.loop (fun m E w' => ∃ (i : Nat) (vo : Value), m = ps.length - i ∧ i ≤ ps.length ∧ agrees E [(2, .pointer (some ⟨w.heap.size, 0, none⟩)), (5, vo), (1, .int .i64 y), (10, vd), (11, .int .i64 ps.length), (12, .int .i64 (i : Int))] ∧ OV w' w1.heap.size 2 vo (ints (idxs (dUnder ps ds y) i)) ∧ Ext w1 w') _ (⟨0, vo, rfl, Nat.zero_le _, ⟨rfl, rfl, rfl, rfl, rfl, rfl, trivial⟩, ho2, hE2⟩) ?_
  · rintro m E w3 ⟨i, vo, rfl, hi, hag, ho3, hE3⟩
    refine CW.re _ hag rfl ?_
    have hle := idxs_le (dUnder ps ds y) i
    have hE13 := hE1.trans hE3
    refine CW.seq ?_
    refine CW.region ?_
    refine RL.y rfl (y_lt rfl rfl) ?_
    refine RL.nil ?_
    refine Fin.next ?_
    refine CW.seq ?_
    refine CW.cond rfl rfl (fun hc => ?_) (fun hc => ?_)
    · with_reducible first | (replace hc := deNF hc) | (replace hc := of_decide_eq_true hc) | (replace hc := of_decide_eq_false hc) | (replace hc := deNT hc) | (replace hc := deNN hc) | (replace hc := bnT hc) | (replace hc := bnF hc) | skip
      have hlt : i < ps.length := by omega
      have hltd : i < ds.length := by omega
      have hds : isD ds i = ds[i] := getD_lt hltd
      refine CW.skip ?_
      refine Fin.next ?_
      refine CW.seq ?_
      refine CW.block ?_
      refine CW.seq ?_
      refine CW.region ?_
      refine RL.y rfl (y_mov (v := .int _ _) rfl) ?_
      refine RL.y rfl (y_ixa sT23 (eqw (hd.ext hE13)) (k := i) (bools_lt hltd) rfl rfl) ?_
      refine RL.y rfl (y_load sc4 (eqw (hd.ext hE13)) (bools_at hltd) rfl) ?_
      refine RL.y rfl (y_asg (v := .int _ _) rfl) ?_
      refine RL.y rfl (y_asg (v := .bool _) rfl) ?_
      refine RL.nil ?_
      refine Fin.next ?_
      refine CW.seq ?_
      refine CW.region ?_
      refine RL.y rfl (y_mov (v := .bool _) rfl) ?_
      refine RL.y rfl (y_mov (v := .bool _) rfl) ?_
      refine RL.split (t := 18) rfl rfl (fun h1 => ?_) (fun h1 => ?_)
      · with_reducible first | (replace h1 := deNF h1) | (replace h1 := of_decide_eq_true h1) | (replace h1 := of_decide_eq_false h1) | (replace h1 := deNT h1) | (replace h1 := deNN h1) | (replace h1 := bnT h1) | (replace h1 := bnF h1) | skip
        refine RL.take (t := 18) rfl rfl rfl ?_
        refine RL.y rfl (y_loads ag28 rfl (eqw (hV.ext hE3)) rfl) ?_
        refine RL.take (t := 18) rfl rfl rfl ?_
        refine RL.y rfl (y_mov (v := .int _ _) rfl) ?_
        refine RL.take (t := 18) rfl rfl rfl ?_
        refine RL.y rfl (y_mov (v := .int _ _) rfl) ?_
        refine RL.take (t := 18) rfl rfl rfl ?_
        refine RL.call rfl (isUnder_any (hb0.ext hE13) ht (by omega) hy h24.2) ?_
        rintro r w4 ⟨rfl, hE4⟩
        refine RL.y rfl (y_pickT (v := .bool _) rfl rfl) ?_
        refine RL.nil ?_
        refine Fin.next ?_
        refine CW.cond rfl rfl (fun h2 => ?_) (fun h2 => ?_)
        · with_reducible first | (replace h2 := deNF h2) | (replace h2 := of_decide_eq_true h2) | (replace h2 := of_decide_eq_false h2) | (replace h2 := deNT h2) | (replace h2 := deNN h2) | (replace h2 := bnT h2) | (replace h2 := bnF h2) | skip
          have hpy : dUnder ps ds y i = true := by unfold dUnder; rw [hds, h1, decide_eq_true h2]; rfl
          refine CW.region ?_
          refine RL.y rfl (y_mov (by conv => lhs; whnf)) ?_
          refine RL.y rfl (y_mov (v := .int _ _) rfl) ?_
          refine RL.app1i rfl rfl sT22 (by omega) (ho3.ext hE4) (by omega) (hE3.trans hE4).size rfl (fun _ => rfl) (fun u v6 w6 ho6 hg6 hn6 => ?_)
          refine RL.y rfl (y_asg (by conv => lhs; whnf)) ?_
          refine RL.nil ?_
          refine Fin.blockNormal ?_
          refine Fin.next ?_
          refine CW.region ?_
          refine RL.y rfl (y_add rfl rfl (IntWalk.i64_in _ (by omega))) ?_
          refine RL.y rfl (y_mov (v := .int _ _) rfl) ?_
          refine RL.nil ?_
          refine Fin.le ?_
          exact ⟨ps.length - (i + 1), by omega, i + 1, v6, rfl, hlt, ⟨rfl, rfl, rfl, rfl, rfl, rfl, trivial⟩, by rw [idxs_yes hpy]; exact ho6, (hE3.trans hE4).grown hg6 (fun b hb => (ho3.lt b hb).1)⟩
        · with_reducible first | (replace h2 := deNF h2) | (replace h2 := of_decide_eq_true h2) | (replace h2 := of_decide_eq_false h2) | (replace h2 := deNT h2) | (replace h2 := deNN h2) | (replace h2 := bnT h2) | (replace h2 := bnF h2) | skip
          have hpn : dUnder ps ds y i = false := by unfold dUnder; rw [decide_eq_false h2, Bool.and_false]
          refine CW.skip ?_
          refine Fin.blockNormal ?_
          refine Fin.next ?_
          refine CW.region ?_
          refine RL.y rfl (y_add rfl rfl (IntWalk.i64_in _ (by omega))) ?_
          refine RL.y rfl (y_mov (v := .int _ _) rfl) ?_
          refine RL.nil ?_
          refine Fin.le ?_
          exact ⟨ps.length - (i + 1), by omega, i + 1, vo, rfl, hlt, ⟨rfl, rfl, rfl, rfl, rfl, rfl, trivial⟩, by rw [idxs_no hpn]; exact ho3.ext hE4, hE3.trans hE4⟩
      · with_reducible first | (replace h1 := deNF h1) | (replace h1 := of_decide_eq_true h1) | (replace h1 := of_decide_eq_false h1) | (replace h1 := deNT h1) | (replace h1 := deNN h1) | (replace h1 := bnT h1) | (replace h1 := bnF h1) | skip
        have hpn : dUnder ps ds y i = false := by unfold dUnder; rw [hds, h1, Bool.false_and]
        refine RL.pass (t := 18) rfl rfl rfl rfl ?_
        refine RL.pass (t := 18) rfl rfl rfl rfl ?_
        refine RL.pass (t := 18) rfl rfl rfl rfl ?_
        refine RL.pass (t := 18) rfl rfl rfl rfl ?_
        refine RL.y rfl (y_pickF (v := .bool _) rfl rfl) ?_
        refine RL.nil ?_
        refine Fin.next ?_
        refine CW.condF rfl rfl ?_
        refine CW.skip ?_
        refine Fin.blockNormal ?_
        refine Fin.next ?_
        refine CW.region ?_
        refine RL.y rfl (y_add rfl rfl (IntWalk.i64_in _ (by omega))) ?_
        refine RL.y rfl (y_mov (v := .int _ _) rfl) ?_
        refine RL.nil ?_
        refine Fin.le ?_
        exact ⟨ps.length - (i + 1), by omega, i + 1, vo, rfl, hlt, ⟨rfl, rfl, rfl, rfl, rfl, rfl, trivial⟩, by rw [idxs_no hpn]; exact ho3, hE3⟩
    · with_reducible first | (replace hc := deNF hc) | (replace hc := of_decide_eq_true hc) | (replace hc := of_decide_eq_false hc) | (replace hc := deNT hc) | (replace hc := deNN hc) | (replace hc := bnT hc) | (replace hc := bnF hc) | skip
      obtain rfl : i = ps.length := by omega
      refine CW.exit ?_
      refine Fin.thenExit ?_
      refine Fin.thenExit ?_
      refine Fin.blockHit ?_
      refine Fin.next ?_
      refine CW.seq ?_
      refine CW.region ?_
      refine RL.y rfl (y_mov (by conv => lhs; whnf)) ?_
      refine RL.y rfl (y_asg (by conv => lhs; whnf)) ?_
      refine RL.nil ?_
      refine Fin.next ?_
      refine CW.ret ?_
      refine Fin.ret1 rfl (by conv => lhs; whnf) ?_
      exact ⟨_, rfl, ho3.mono hE1.size, hE13⟩
end Go.Proofs.Ytebegkegkdmbjaa
