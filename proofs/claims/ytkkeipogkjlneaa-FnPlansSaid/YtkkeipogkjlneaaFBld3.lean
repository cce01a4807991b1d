/-
  Buildings: the ways up, the codes, the doors under a node.
-/
import Derived.Test.YtkkeipogkjlneaaFBld2
namespace Go.Proofs.Ytkkeipogkjlneaa
open B Go.RowKit



theorem l09Node_any {w : World} {b : Value} {ps : List Int} {ds : List Bool} {x : Int} (hb : RdB w b ps ds) :
    Does Try.prog 116 #[b, .int .i64 x] w (fun r w' => r = .bool (decide (0 ≤ x ∧ x ≤ (ps.length : Int) - 1)) ∧ Ext w w') := by
  obtain ⟨vp, vd, rfl, hp, hd⟩ := hb
  have hpl := SI.le hp
  refine enter Try.func116 rfl 11 Try.ntmps116 rfl (by kernel_rfl) ?_
  refine CW.seq ?_
  refine CW.region ?_
  refine RL.box (cs := [vp, vd]) rfl rfl rfl (fun w1 hV hE1 => ?_)
  refine RL.y rfl (y_asg rfl) ?_
  refine RL.nil ?_
  refine Fin.next ?_
  refine CW.seq ?_
  refine CW.region ?_
  refine RL.y rfl (y_mov (v := .int _ _) rfl) ?_
  refine RL.y rfl (y_fa fa31_0 rfl rfl) ?_
  refine RL.y rfl (y_loadv sc22 (eqw (hV)) rfl rfl) ?_
  refine RL.y rfl (y_len sT22 hp (ints_len _) rfl) ?_
  refine RL.y rfl (y_sub rfl rfl (IntWalk.i64_in _ (by omega))) ?_
  refine RL.call rfl (l01In_any) ?_
  rintro r w2 ⟨rfl, rfl⟩
  refine RL.y rfl (y_asg (v := .bool _) rfl) ?_
  refine RL.nil ?_
  refine Fin.next ?_
  refine CW.ret ?_
  refine Fin.ret1 rfl (by conv => lhs; whnf) ?_
  exact ⟨_, rfl, rfl, hE1⟩


theorem nodeCode_any {w : World} {b u : Value} {ps : List Int} {ds : List Bool} {ks : List Int} (hb : RdB w b ps ds) (hu : SI w u ks) :
    Does Try.prog 127 #[b, u] w (fun r w' => r = .int .i64 (ncC ps ds ks) ∧ Ext w w') := by
  have hb0 := hb
  obtain ⟨vp, vd, rfl, hp, hd⟩ := hb
  have hpl := SI.le hp
  refine enter Try.func127 rfl 15 Try.ntmps127 rfl (by kernel_rfl) ?_
  refine CW.seq ?_
  refine CW.region ?_
  refine RL.box (cs := [vp, vd]) rfl rfl rfl (fun w1 hV hE1 => ?_)
  refine RL.y rfl (y_asg rfl) ?_
  refine RL.nil ?_
  refine Fin.next ?_
  refine CW.seq ?_
  refine CW.seq ?_
  refine CW.region ?_
  refine RL.y rfl (y_loads ag31 rfl (eqw (hV)) rfl) ?_
  refine RL.call rfl (implIsBuilding_any (hb0.ext hE1)) ?_
  rintro r w2 ⟨rfl, hE2⟩
  have hE12 := hE1.trans hE2
  refine RL.y rfl (y_not rfl) ?_
  refine RL.nil ?_
  refine Fin.next ?_
  refine CW.cond rfl rfl (fun h1 => ?_) (fun h1 => ?_)
  · with_reducible first | (replace h1 := deNF h1) | (replace h1 := of_decide_eq_true h1) | (replace h1 := of_decide_eq_false h1) | (replace h1 := deNT h1) | (replace h1 := deNN h1) | (replace h1 := bnT h1) | (replace h1 := bnF h1) | skip
    refine CW.seq ?_
    refine CW.region ?_
    refine RL.y rfl (y_asg rfl) ?_
    refine RL.nil ?_
    refine Fin.next ?_
    refine CW.ret ?_
    refine Fin.thenRet ?_
    refine Fin.ret1 rfl (by conv => lhs; whnf) ?_
    exact ⟨_, rfl, by unfold ncC; rw [if_neg h1], hE12⟩
  · with_reducible first | (replace h1 := deNF h1) | (replace h1 := of_decide_eq_true h1) | (replace h1 := of_decide_eq_false h1) | (replace h1 := deNT h1) | (replace h1 := deNN h1) | (replace h1 := bnT h1) | (replace h1 := bnF h1) | skip
    refine CW.skip ?_
    refine Fin.next ?_
    refine CW.seq ?_
    refine CW.seq ?_
    refine CW.region ?_
    refine RL.y rfl (y_mov (by conv => lhs; whnf)) ?_
    refine RL.y rfl (y_fa fa31_0 rfl rfl) ?_
    refine RL.y rfl (y_loadv sc22 (eqw (hV.ext hE2)) rfl rfl) ?_
    refine RL.y rfl (y_len sT22 hp (ints_len _) rfl) ?_
    refine RL.y rfl (y_sub rfl rfl (IntWalk.i64_in _ (by omega))) ?_
    refine RL.call rfl (allWithin_any (hu.ext hE12)) ?_
    rintro r w3 ⟨rfl, rfl⟩
    refine RL.y rfl (y_not rfl) ?_
    refine RL.nil ?_
    refine Fin.next ?_
    refine CW.cond rfl rfl (fun h2 => ?_) (fun h2 => ?_)
    · with_reducible first | (replace h2 := deNF h2) | (replace h2 := of_decide_eq_true h2) | (replace h2 := of_decide_eq_false h2) | (replace h2 := deNT h2) | (replace h2 := deNN h2) | (replace h2 := bnT h2) | (replace h2 := bnF h2) | skip
      refine CW.seq ?_
      refine CW.region ?_
      refine RL.y rfl (y_asg rfl) ?_
      refine RL.nil ?_
      refine Fin.next ?_
      refine CW.ret ?_
      refine Fin.thenRet ?_
      refine Fin.ret1 rfl (by conv => lhs; whnf) ?_
      exact ⟨_, rfl, by unfold ncC; rw [if_pos h1, if_neg h2], hE12⟩
    · with_reducible first | (replace h2 := deNF h2) | (replace h2 := of_decide_eq_true h2) | (replace h2 := of_decide_eq_false h2) | (replace h2 := deNT h2) | (replace h2 := deNN h2) | (replace h2 := bnT h2) | (replace h2 := bnF h2) | skip
      refine CW.skip ?_
      refine Fin.next ?_
      refine CW.seq ?_
      refine CW.region ?_
      refine RL.y rfl (y_asg rfl) ?_
      refine RL.nil ?_
      refine Fin.next ?_
      refine CW.ret ?_
      refine Fin.ret1 rfl (by conv => lhs; whnf) ?_
      exact ⟨_, rfl, by unfold ncC; rw [if_pos h1, if_pos h2], hE12⟩

theorem l09Doors_any {w : World} {b : Value} {ps : List Int} {ds : List Bool} {y : Int} (hb : RdB w b ps ds) (hbl : bld ps ds) :
    Does Try.prog 89 #[b, .int .i64 y] w (fun v' w' => OV w' w.heap.size 2 v' (ints (doorsU ps ds y)) ∧ Ext w w') := by
  have hb0 := hb
  obtain ⟨vp, vd, rfl, hp, hd⟩ := hb
  have ht := bld_tree hbl
  have h24 := hbl.1.1
  have hdl := hbl.1.2.1
  refine enter Try.func89 rfl 31 Try.ntmps89 rfl (by kernel_rfl) ?_
  refine CW.seq ?_
  refine CW.region ?_
  refine RL.box (cs := [vp, vd]) rfl rfl rfl (fun w1 hV hE1 => ?_)
  refine RL.y rfl (y_asg rfl) ?_
  refine RL.nil ?_
  refine Fin.next ?_
  refine CW.seq ?_
  refine CW.region ?_
  refine RL.lit0 rfl sT22 (fun vo w2 ho2 hE2 hb2 => ?_)
  refine RL.y rfl (y_asg (by conv => lhs; whnf)) ?_
  refine RL.nil ?_
  refine Fin.next ?_
  refine CW.seq ?_
  refine CW.seq ?_
  refine CW.region ?_
  refine RL.y rfl (y_asg rfl) ?_
  refine RL.nil ?_
  refine Fin.next ?_
  refine CW.block ?_
  refine CW.loop (fun m E w' => ∃ (i : Nat) (vo : Value), m = ps.length - i ∧ i ≤ ps.length ∧ agrees E [(2, .pointer (some ⟨w.heap.size, 0, none⟩)), (5, vo), (1, .int .i64 y), (6, .int .i64 (i : Int))] ∧ OV w' w1.heap.size 2 vo (ints (idxs (dUnder ps ds y) i)) ∧ Ext w1 w') _ (⟨0, vo, rfl, Nat.zero_le _, ⟨rfl, rfl, rfl, rfl, trivial⟩, ho2, hE2⟩) ?_
  · rintro m E w3 ⟨i, vo, rfl, hi, hag, ho3, hE3⟩
    refine CW.re _ hag rfl ?_
    have hle := idxs_le (dUnder ps ds y) i
    have hE13 := hE1.trans hE3
    refine CW.seq ?_
    refine CW.seq ?_
    refine CW.region ?_
    refine RL.y rfl (y_mov (v := .int _ _) rfl) ?_
    refine RL.y rfl (y_fa fa31_1 rfl rfl) ?_
    refine RL.y rfl (y_loadv sc23 (eqw (hV.ext hE3)) rfl rfl) ?_
    refine RL.y rfl (y_len sT23 hd ((bools_len _).trans hdl) rfl) ?_
    refine RL.y rfl (y_lt rfl rfl) ?_
    refine RL.nil ?_
    refine Fin.next ?_
    refine CW.cond rfl rfl (fun hc => ?_) (fun hc => ?_)
    · with_reducible first | (replace hc := deNF hc) | (replace hc := of_decide_eq_true hc) | (replace hc := of_decide_eq_false hc) | (replace hc := deNT hc) | (replace hc := deNN hc) | (replace hc := bnT hc) | (replace hc := bnF hc) | skip
      have hlt : i < ps.length := by omega
      have hltd : i < ds.length := by omega
      have hds : isD ds i = ds[i] := getD_lt hltd
      refine CW.skip ?_
      refine Fin.next ?_
      refine CW.seq ?_
      refine CW.block ?_
      refine CW.seq ?_
      refine CW.region ?_
      refine RL.y rfl (y_fa fa31_1 rfl rfl) ?_
      refine RL.y rfl (y_loadv sc23 (eqw (hV.ext hE3)) rfl rfl) ?_
      refine RL.y rfl (y_mov (v := .int _ _) rfl) ?_
      refine RL.y rfl (y_ixa sT23 (eqw (hd.ext hE13)) (k := i) (bools_lt hltd) rfl rfl) ?_
      refine RL.y rfl (y_load sc4 (eqw (hd.ext hE13)) (bools_at hltd) rfl) ?_
      refine RL.y rfl (y_mov (v := .bool _) rfl) ?_
      refine RL.split (t := 20) rfl rfl (fun h1 => ?_) (fun h1 => ?_)
      · with_reducible first | (replace h1 := deNF h1) | (replace h1 := of_decide_eq_true h1) | (replace h1 := of_decide_eq_false h1) | (replace h1 := deNT h1) | (replace h1 := deNN h1) | (replace h1 := bnT h1) | (replace h1 := bnF h1) | skip
        refine RL.take (t := 20) rfl rfl rfl ?_
        refine RL.y rfl (y_loads ag31 rfl (eqw (hV.ext hE3)) rfl) ?_
        refine RL.take (t := 20) rfl rfl rfl ?_
        refine RL.y rfl (y_mov (v := .int _ _) rfl) ?_
        refine RL.take (t := 20) rfl rfl rfl ?_
        refine RL.y rfl (y_mov (v := .int _ _) rfl) ?_
        refine RL.take (t := 20) rfl rfl rfl ?_
        refine RL.call rfl (l09Under_any (hb0.ext hE13) ht (by omega) h24.2) ?_
        rintro r w4 ⟨rfl, hE4⟩
        refine RL.y rfl (y_pickT (v := .bool _) rfl rfl) ?_
        refine RL.nil ?_
        refine Fin.next ?_
        refine CW.cond rfl rfl (fun h2 => ?_) (fun h2 => ?_)
        · with_reducible first | (replace h2 := deNF h2) | (replace h2 := of_decide_eq_true h2) | (replace h2 := of_decide_eq_false h2) | (replace h2 := deNT h2) | (replace h2 := deNN h2) | (replace h2 := bnT h2) | (replace h2 := bnF h2) | skip
          have hpy : dUnder ps ds y i = true := by unfold dUnder; rw [hds, h1, decide_eq_true h2]; rfl
          refine CW.region ?_
          refine RL.y rfl (y_mov (by conv => lhs; whnf)) ?_
          refine RL.y rfl (y_mov (v := .int _ _) rfl) ?_
          refine RL.app1i rfl rfl sT22 (by omega) (ho3.ext hE4) (by omega) (hE3.trans hE4).size rfl (fun _ => rfl) (fun u v6 w6 ho6 hg6 hn6 => ?_)
          refine RL.y rfl (y_asg (by conv => lhs; whnf)) ?_
          refine RL.nil ?_
          refine Fin.blockNormal ?_
          refine Fin.next ?_
          refine CW.region ?_
          refine RL.y rfl (y_mov (v := .int _ _) rfl) ?_
          refine RL.y rfl (y_add rfl rfl (IntWalk.i64_in _ (by omega))) ?_
          refine RL.y rfl (y_asg (v := .int _ _) rfl) ?_
          refine RL.nil ?_
          refine Fin.le ?_
          exact ⟨ps.length - (i + 1), by omega, i + 1, v6, rfl, hlt, ⟨rfl, rfl, rfl, rfl, trivial⟩, by rw [idxs_yes hpy]; exact ho6, (hE3.trans hE4).grown hg6 (fun b hb => (ho3.lt b hb).1)⟩
        · with_reducible first | (replace h2 := deNF h2) | (replace h2 := of_decide_eq_true h2) | (replace h2 := of_decide_eq_false h2) | (replace h2 := deNT h2) | (replace h2 := deNN h2) | (replace h2 := bnT h2) | (replace h2 := bnF h2) | skip
          have hpn : dUnder ps ds y i = false := by unfold dUnder; rw [decide_eq_false h2, Bool.and_false]
          refine CW.skip ?_
          refine Fin.blockNormal ?_
          refine Fin.next ?_
          refine CW.region ?_
          refine RL.y rfl (y_mov (v := .int _ _) rfl) ?_
          refine RL.y rfl (y_add rfl rfl (IntWalk.i64_in _ (by omega))) ?_
          refine RL.y rfl (y_asg (v := .int _ _) rfl) ?_
          refine RL.nil ?_
          refine Fin.le ?_
          exact ⟨ps.length - (i + 1), by omega, i + 1, vo, rfl, hlt, ⟨rfl, rfl, rfl, rfl, trivial⟩, by rw [idxs_no hpn]; exact ho3.ext hE4, hE3.trans hE4⟩
      · with_reducible first | (replace h1 := deNF h1) | (replace h1 := of_decide_eq_true h1) | (replace h1 := of_decide_eq_false h1) | (replace h1 := deNT h1) | (replace h1 := deNN h1) | (replace h1 := bnT h1) | (replace h1 := bnF h1) | skip
        have hpn : dUnder ps ds y i = false := by unfold dUnder; rw [hds, h1, Bool.false_and]
        refine RL.pass (t := 20) rfl rfl rfl rfl ?_
        refine RL.pass (t := 20) rfl rfl rfl rfl ?_
        refine RL.pass (t := 20) rfl rfl rfl rfl ?_
        refine RL.pass (t := 20) rfl rfl rfl rfl ?_
        refine RL.y rfl (y_pickF (v := .bool _) rfl rfl) ?_
        refine RL.nil ?_
        refine Fin.next ?_
        refine CW.condF rfl rfl ?_
        refine CW.skip ?_
        refine Fin.blockNormal ?_
        refine Fin.next ?_
        refine CW.region ?_
        refine RL.y rfl (y_mov (v := .int _ _) rfl) ?_
        refine RL.y rfl (y_add rfl rfl (IntWalk.i64_in _ (by omega))) ?_
        refine RL.y rfl (y_asg (v := .int _ _) rfl) ?_
        refine RL.nil ?_
        refine Fin.le ?_
        exact ⟨ps.length - (i + 1), by omega, i + 1, vo, rfl, hlt, ⟨rfl, rfl, rfl, rfl, trivial⟩, by rw [idxs_no hpn]; exact ho3, hE3⟩
    · with_reducible first | (replace hc := deNF hc) | (replace hc := of_decide_eq_true hc) | (replace hc := of_decide_eq_false hc) | (replace hc := deNT hc) | (replace hc := deNN hc) | (replace hc := bnT hc) | (replace hc := bnF hc) | skip
      obtain rfl : i = ps.length := by omega
      refine CW.exit ?_
      refine Fin.thenExit ?_
      refine Fin.thenExit ?_
      refine Fin.blockHit ?_
      refine Fin.next ?_
      refine CW.seq ?_
      refine CW.region ?_
      refine RL.y rfl (y_mov (by conv => lhs; whnf)) ?_
      refine RL.y rfl (y_asg (by conv => lhs; whnf)) ?_
      refine RL.nil ?_
      refine Fin.next ?_
      refine CW.ret ?_
      refine Fin.ret1 rfl (by conv => lhs; whnf) ?_
      exact ⟨_, rfl, ho3.mono hE1.size, hE13⟩

theorem doorsUnder_any {w : World} {b : Value} {ps : List Int} {ds : List Bool} {y : Int} (hb : RdB w b ps ds) (hbl : bld ps ds) (hy : 0 ≤ y) :
    Does Try.prog 91 #[b, .int .i64 y] w (fun v' w' => OV w' w.heap.size 2 v' (ints (doorsU ps ds y)) ∧ Ext w w') := by
  have hb0 := hb
  obtain ⟨vp, vd, rfl, hp, hd⟩ := hb
  have ht := bld_tree hbl
  have h24 := hbl.1.1
  have hdl := hbl.1.2.1
  refine enter Try.func91 rfl 30 Try.ntmps91 rfl (by kernel_rfl) ?_
  refine CW.seq ?_
  refine CW.region ?_
  refine RL.box (cs := [vp, vd]) rfl rfl rfl (fun w1 hV hE1 => ?_)
  refine RL.y rfl (y_asg rfl) ?_
  refine RL.nil ?_
  refine Fin.next ?_
  refine CW.seq ?_
  refine CW.region ?_
  refine RL.lit0 rfl sT22 (fun vo w2 ho2 hE2 hb2 => ?_)
  refine RL.y rfl (y_asg (by conv => lhs; whnf)) ?_
  refine RL.nil ?_
  refine Fin.next ?_
  refine CW.seq ?_
  refine CW.seq ?_
  refine CW.region ?_
  refine RL.y rfl (y_fa fa31_1 rfl rfl) ?_
  refine RL.y rfl (y_loadv sc23 (eqw (hV.ext hE2)) rfl rfl) ?_
  refine RL.y rfl (y_len sT23 hd ((bools_len _).trans hdl) rfl) ?_
  refine RL.y rfl (y_mov rfl) ?_
  refine RL.nil ?_
  refine Fin.next ?_
  refine CW.block ?_
  refine CW.loop (fun m E w' => ∃ (i : Nat) (vo : Value), m = ps.length - i ∧ i ≤ ps.length ∧ agrees E [(2, .pointer (some ⟨w.heap.size, 0, none⟩)), (5, vo), (1, .int .i64 y), (10, vd), (11, .int .i64 ps.length), (12, .int .i64 (i : Int))] ∧ OV w' w1.heap.size 2 vo (ints (idxs (dUnder ps ds y) i)) ∧ Ext w1 w') _ (⟨0, vo, rfl, Nat.zero_le _, ⟨rfl, rfl, rfl, rfl, rfl, rfl, trivial⟩, ho2, hE2⟩) ?_
  · rintro m E w3 ⟨i, vo, rfl, hi, hag, ho3, hE3⟩
    refine CW.re _ hag rfl ?_
    have hle := idxs_le (dUnder ps ds y) i
    have hE13 := hE1.trans hE3
    refine CW.seq ?_
    refine CW.region ?_
    refine RL.y rfl (y_lt rfl rfl) ?_
    refine RL.nil ?_
    refine Fin.next ?_
    refine CW.seq ?_
    refine CW.cond rfl rfl (fun hc => ?_) (fun hc => ?_)
    · with_reducible first | (replace hc := deNF hc) | (replace hc := of_decide_eq_true hc) | (replace hc := of_decide_eq_false hc) | (replace hc := deNT hc) | (replace hc := deNN hc) | (replace hc := bnT hc) | (replace hc := bnF hc) | skip
      have hlt : i < ps.length := by omega
      have hltd : i < ds.length := by omega
      have hds : isD ds i = ds[i] := getD_lt hltd
      refine CW.skip ?_
      refine Fin.next ?_
      refine CW.seq ?_
      refine CW.block ?_
      refine CW.seq ?_
      refine CW.region ?_
      refine RL.y rfl (y_mov (v := .int _ _) rfl) ?_
      refine RL.y rfl (y_ixa sT23 (eqw (hd.ext hE13)) (k := i) (bools_lt hltd) rfl rfl) ?_
      refine RL.y rfl (y_load sc4 (eqw (hd.ext hE13)) (bools_at hltd) rfl) ?_
      refine RL.y rfl (y_asg (v := .int _ _) rfl) ?_
      refine RL.y rfl (y_asg (v := .bool _) rfl) ?_
      refine RL.nil ?_
      refine Fin.next ?_
      refine CW.seq ?_
      refine CW.region ?_
      refine RL.y rfl (y_mov (v := .bool _) rfl) ?_
      refine RL.y rfl (y_mov (v := .bool _) rfl) ?_
      refine RL.split (t := 18) rfl rfl (fun h1 => ?_) (fun h1 => ?_)
      · with_reducible first | (replace h1 := deNF h1) | (replace h1 := of_decide_eq_true h1) | (replace h1 := of_decide_eq_false h1) | (replace h1 := deNT h1) | (replace h1 := deNN h1) | (replace h1 := bnT h1) | (replace h1 := bnF h1) | skip
        refine RL.take (t := 18) rfl rfl rfl ?_
        refine RL.y rfl (y_loads ag31 rfl (eqw (hV.ext hE3)) rfl) ?_
        refine RL.take (t := 18) rfl rfl rfl ?_
        refine RL.y rfl (y_mov (v := .int _ _) rfl) ?_
        refine RL.take (t := 18) rfl rfl rfl ?_
        refine RL.y rfl (y_mov (v := .int _ _) rfl) ?_
        refine RL.take (t := 18) rfl rfl rfl ?_
        refine RL.call rfl (isUnder_any (hb0.ext hE13) ht (by omega) hy h24.2) ?_
        rintro r w4 ⟨rfl, hE4⟩
        refine RL.y rfl (y_pickT (v := .bool _) rfl rfl) ?_
        refine RL.nil ?_
        refine Fin.next ?_
        refine CW.cond rfl rfl (fun h2 => ?_) (fun h2 => ?_)
        · with_reducible first | (replace h2 := deNF h2) | (replace h2 := of_decide_eq_true h2) | (replace h2 := of_decide_eq_false h2) | (replace h2 := deNT h2) | (replace h2 := deNN h2) | (replace h2 := bnT h2) | (replace h2 := bnF h2) | skip
          have hpy : dUnder ps ds y i = true := by unfold dUnder; rw [hds, h1, decide_eq_true h2]; rfl
          refine CW.region ?_
          refine RL.y rfl (y_mov (by conv => lhs; whnf)) ?_
          refine RL.y rfl (y_mov (v := .int _ _) rfl) ?_
          refine RL.app1i rfl rfl sT22 (by omega) (ho3.ext hE4) (by omega) (hE3.trans hE4).size rfl (fun _ => rfl) (fun u v6 w6 ho6 hg6 hn6 => ?_)
          refine RL.y rfl (y_asg (by conv => lhs; whnf)) ?_
          refine RL.nil ?_
          refine Fin.blockNormal ?_
          refine Fin.next ?_
          refine CW.region ?_
          refine RL.y rfl (y_add rfl rfl (IntWalk.i64_in _ (by omega))) ?_
          refine RL.y rfl (y_mov (v := .int _ _) rfl) ?_
          refine RL.nil ?_
          refine Fin.le ?_
          exact ⟨ps.length - (i + 1), by omega, i + 1, v6, rfl, hlt, ⟨rfl, rfl, rfl, rfl, rfl, rfl, trivial⟩, by rw [idxs_yes hpy]; exact ho6, (hE3.trans hE4).grown hg6 (fun b hb => (ho3.lt b hb).1)⟩
        · with_reducible first | (replace h2 := deNF h2) | (replace h2 := of_decide_eq_true h2) | (replace h2 := of_decide_eq_false h2) | (replace h2 := deNT h2) | (replace h2 := deNN h2) | (replace h2 := bnT h2) | (replace h2 := bnF h2) | skip
          have hpn : dUnder ps ds y i = false := by unfold dUnder; rw [decide_eq_false h2, Bool.and_false]
          refine CW.skip ?_
          refine Fin.blockNormal ?_
          refine Fin.next ?_
          refine CW.region ?_
          refine RL.y rfl (y_add rfl rfl (IntWalk.i64_in _ (by omega))) ?_
          refine RL.y rfl (y_mov (v := .int _ _) rfl) ?_
          refine RL.nil ?_
          refine Fin.le ?_
          exact ⟨ps.length - (i + 1), by omega, i + 1, vo, rfl, hlt, ⟨rfl, rfl, rfl, rfl, rfl, rfl, trivial⟩, by rw [idxs_no hpn]; exact ho3.ext hE4, hE3.trans hE4⟩
      · with_reducible first | (replace h1 := deNF h1) | (replace h1 := of_decide_eq_true h1) | (replace h1 := of_decide_eq_false h1) | (replace h1 := deNT h1) | (replace h1 := deNN h1) | (replace h1 := bnT h1) | (replace h1 := bnF h1) | skip
        have hpn : dUnder ps ds y i = false := by unfold dUnder; rw [hds, h1, Bool.false_and]
        refine RL.pass (t := 18) rfl rfl rfl rfl ?_
        refine RL.pass (t := 18) rfl rfl rfl rfl ?_
        refine RL.pass (t := 18) rfl rfl rfl rfl ?_
        refine RL.pass (t := 18) rfl rfl rfl rfl ?_
        refine RL.y rfl (y_pickF (v := .bool _) rfl rfl) ?_
        refine RL.nil ?_
        refine Fin.next ?_
        refine CW.condF rfl rfl ?_
        refine CW.skip ?_
        refine Fin.blockNormal ?_
        refine Fin.next ?_
        refine CW.region ?_
        refine RL.y rfl (y_add rfl rfl (IntWalk.i64_in _ (by omega))) ?_
        refine RL.y rfl (y_mov (v := .int _ _) rfl) ?_
        refine RL.nil ?_
        refine Fin.le ?_
        exact ⟨ps.length - (i + 1), by omega, i + 1, vo, rfl, hlt, ⟨rfl, rfl, rfl, rfl, rfl, rfl, trivial⟩, by rw [idxs_no hpn]; exact ho3, hE3⟩
    · with_reducible first | (replace hc := deNF hc) | (replace hc := of_decide_eq_true hc) | (replace hc := of_decide_eq_false hc) | (replace hc := deNT hc) | (replace hc := deNN hc) | (replace hc := bnT hc) | (replace hc := bnF hc) | skip
      obtain rfl : i = ps.length := by omega
      refine CW.exit ?_
      refine Fin.thenExit ?_
      refine Fin.thenExit ?_
      refine Fin.blockHit ?_
      refine Fin.next ?_
      refine CW.seq ?_
      refine CW.region ?_
      refine RL.y rfl (y_mov (by conv => lhs; whnf)) ?_
      refine RL.y rfl (y_asg (by conv => lhs; whnf)) ?_
      refine RL.nil ?_
      refine Fin.next ?_
      refine CW.ret ?_
      refine Fin.ret1 rfl (by conv => lhs; whnf) ?_
      exact ⟨_, rfl, ho3.mono hE1.size, hE13⟩
end Go.Proofs.Ytkkeipogkjlneaa
