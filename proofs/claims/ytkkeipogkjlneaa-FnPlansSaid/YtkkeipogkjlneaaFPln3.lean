/-
  Plans: UnusedDoors, ShortRights, AccessOf, LeastRights.
-/
import Derived.Test.YtkkeipogkjlneaaFPln2
namespace Go.Proofs.Ytkkeipogkjlneaa
open B Go.RowKit

theorem unusedDoors1_any {w : World} {vp vd vr : Value} {b : Nat} {ps : List Int} {ds : List Bool} {rs : List (List Int)} {d : Int} (hV : VR w b [vp, vd, vr]) (hp : RdP w (.agg #[vp, vd, vr]) ps ds rs) (hpl : pln ps ds rs) (hd : d < ps.length) :
    Does Try.prog 92 #[.int .i64 d, .pointer (some ⟨b, 0, none⟩)] w (fun r w' => r = .bool (decide (used ps rs d)) ∧ Ext w w') := by
  refine enter Try.func92 rfl 9 Try.ntmps92 rfl (by kernel_rfl) ?_
  refine CW.seq ?_
  refine CW.region ?_
  refine RL.y rfl (y_asg rfl) ?_
  refine RL.nil ?_
  refine Fin.next ?_
  refine CW.seq ?_
  refine CW.region ?_
  refine RL.y rfl (y_loads ag33 rfl (eqw (hV)) rfl) ?_
  refine RL.y rfl (y_mov (v := .int _ _) rfl) ?_
  refine RL.call rfl (keysFor_any hp hpl hd) ?_
  rintro v1 w1 ⟨ho, hE1⟩
  refine RL.y rfl (y_len sT22 ho.sv (ints_len _) rfl) ?_
  refine RL.y rfl (y_gt rfl rfl) ?_
  refine RL.y rfl (y_asg (v := .bool _) rfl) ?_
  refine RL.nil ?_
  refine Fin.next ?_
  refine CW.ret ?_
  refine Fin.ret1 rfl (by conv => lhs; whnf) ?_
  exact ⟨_, rfl, congrArg Value.bool kf_used, hE1⟩

theorem implUnusedDoors_any {w : World} {v : Value} {ps : List Int} {ds : List Bool} {rs : List (List Int)} (hp : RdP w v ps ds rs) :
    Does Try.prog 35 #[v] w (fun r w' => ∃ v1, r = .tuple #[v1, .int .i64 (plC ps ds rs)] ∧ OV w' w.heap.size 2 v1 (ints (udV ps ds rs)) ∧ Ext w w') := by
  have hp0 := hp
  obtain ⟨vp, vd, vr, rfl, hb, hr⟩ := hp
  refine enter Try.func35 rfl 12 Try.ntmps35 rfl (by kernel_rfl) ?_
  refine CW.seq ?_
  refine CW.region ?_
  refine RL.box (cs := [vp, vd, vr]) rfl rfl rfl (fun w1 hV hE1 => ?_)
  refine RL.y rfl (y_asg rfl) ?_
  refine RL.y rfl (y_asg rfl) ?_
  refine RL.nil ?_
  refine Fin.next ?_
  refine CW.seq ?_
  refine CW.seq ?_
  refine CW.region ?_
  refine RL.y rfl (y_loads ag33 rfl (eqw (hV)) rfl) ?_
  refine RL.call rfl (implIsPlan_any (hp0.ext hE1)) ?_
  rintro r w2 ⟨rfl, hE2⟩
  have hE12 := hE1.trans hE2
  refine RL.y rfl (y_not rfl) ?_
  refine RL.nil ?_
  refine Fin.next ?_
  refine CW.cond rfl rfl (fun h1 => ?_) (fun h1 => ?_)
  · with_reducible first | (replace h1 := deNF h1) | (replace h1 := of_decide_eq_true h1) | (replace h1 := of_decide_eq_false h1) | (replace h1 := deNT h1) | (replace h1 := deNN h1) | (replace h1 := bnT h1) | (replace h1 := bnF h1) | skip
    refine CW.seq ?_
    refine CW.region ?_
    refine RL.y rfl (y_asg rfl) ?_
    refine RL.y rfl (y_asg rfl) ?_
    refine RL.nil ?_
    refine Fin.next ?_
    refine CW.ret ?_
    refine Fin.thenRet ?_
    refine Fin.ret2 rfl (by conv => lhs; whnf) (by conv => lhs; whnf) ?_
    exact ⟨_, rfl, _, by unfold plC; rw [if_neg h1], by unfold udV; rw [if_neg h1]; exact OV.nil _ _ _, hE12⟩
  · with_reducible first | (replace h1 := deNF h1) | (replace h1 := of_decide_eq_true h1) | (replace h1 := of_decide_eq_false h1) | (replace h1 := deNT h1) | (replace h1 := deNN h1) | (replace h1 := bnT h1) | (replace h1 := bnF h1) | skip
    refine CW.skip ?_
    refine Fin.next ?_
    refine CW.seq ?_
    refine CW.region ?_
    refine RL.y rfl (y_fa fa33_0 rfl rfl) ?_
    refine RL.y rfl (y_loadp (ds := [vp, vd]) ag31 (eqw (hV.ext hE2)) rfl rfl rfl) ?_
    refine RL.call rfl (doorsUnder_any (hb.ext hE12) h1.1 (Int.le_refl 0)) ?_
    rintro vl w3 ⟨hol, hE3⟩
    refine RL.y rfl (y_fnl rfl) ?_
    refine RL.call rfl (DeleteFunc_any (w0 := w2) (fun d => decide (used ps rs d)) hE3 (Nat.le_refl _) hol (fun w' x h hx => unusedDoors1_any ((hV.ext hE2).ext h) ((hp0.ext hE12).ext h) h1 (mem_idxs_door hx).2)) ?_
    rintro vf w4 ⟨hof, hE4⟩
    refine RL.y rfl (y_asg (by conv => lhs; whnf)) ?_
    refine RL.y rfl (y_asg rfl) ?_
    refine RL.nil ?_
    refine Fin.next ?_
    refine CW.ret ?_
    refine Fin.ret2 rfl (by conv => lhs; whnf) (by conv => lhs; whnf) ?_
    exact ⟨_, rfl, _, by unfold plC; rw [if_pos h1], by unfold udV; rw [if_pos h1]; exact hof.mono hE12.size, hE12.trans hE4⟩

theorem specUnusedDoors_any {w : World} {v : Value} {ps : List Int} {ds : List Bool} {rs : List (List Int)} (hp : RdP w v ps ds rs) :
    Does Try.prog 34 #[v] w (fun r w' => ∃ v1, r = .tuple #[v1, .int .i64 (plC ps ds rs)] ∧ OV w' w.heap.size 2 v1 (ints (udV ps ds rs)) ∧ Ext w w') := by
  have hp0 := hp
  obtain ⟨vp, vd, vr, rfl, hb, hr⟩ := hp
  obtain ⟨cs, hc⟩ := hr
  have hxl := hc.le
  refine enter Try.func34 rfl 54 Try.ntmps34 rfl (by kernel_rfl) ?_
  refine CW.seq ?_
  refine CW.region ?_
  refine RL.box (cs := [vp, vd, vr]) rfl rfl rfl (fun w1 hV hE1 => ?_)
  refine RL.y rfl (y_asg rfl) ?_
  refine RL.y rfl (y_asg rfl) ?_
  refine RL.nil ?_
  refine Fin.next ?_
  refine CW.seq ?_
  refine CW.seq ?_
  refine CW.region ?_
  refine RL.y rfl (y_loads ag33 rfl (eqw (hV)) rfl) ?_
  refine RL.call rfl (specIsPlan_any (hp0.ext hE1)) ?_
  rintro r w2 ⟨rfl, hE2⟩
  have hE12 := hE1.trans hE2
  refine RL.y rfl (y_not rfl) ?_
  refine RL.nil ?_
  refine Fin.next ?_
  refine CW.cond rfl rfl (fun h1 => ?_) (fun h1 => ?_)
  · with_reducible first | (replace h1 := deNF h1) | (replace h1 := of_decide_eq_true h1) | (replace h1 := of_decide_eq_false h1) | (replace h1 := deNT h1) | (replace h1 := deNN h1) | (replace h1 := bnT h1) | (replace h1 := bnF h1) | skip
    refine CW.seq ?_
    refine CW.region ?_
    refine RL.y rfl (y_asg rfl) ?_
    refine RL.y rfl (y_asg rfl) ?_
    refine RL.nil ?_
    refine Fin.next ?_
    refine CW.ret ?_
    refine Fin.thenRet ?_
    refine Fin.ret2 rfl (by conv => lhs; whnf) (by conv => lhs; whnf) ?_
    exact ⟨_, rfl, _, by unfold plC; rw [if_neg h1], by unfold udV; rw [if_neg h1]; exact OV.nil _ _ _, hE12⟩
  · with_reducible first | (replace h1 := deNF h1) | (replace h1 := of_decide_eq_true h1) | (replace h1 := of_decide_eq_false h1) | (replace h1 := deNT h1) | (replace h1 := deNN h1) | (replace h1 := bnT h1) | (replace h1 := bnF h1) | skip
    have h24 := drs_len h1.1
    refine CW.skip ?_
    refine Fin.next ?_
    refine CW.seq ?_
    refine CW.region ?_
    refine RL.y rfl (y_fa fa33_0 rfl rfl) ?_
    refine RL.y rfl (y_loadp (ds := [vp, vd]) ag31 (eqw (hV.ext hE2)) rfl rfl rfl) ?_
    refine RL.call rfl (l09Doors_any (hb.ext hE12) h1.1) ?_
    rintro vl w3 ⟨hol, hE3⟩
    replace hol : OV w3 w2.heap.size 2 vl (ints (drs ps ds)) := hol
    have hE23 := hE2.trans hE3
    refine RL.y rfl (y_asg (by conv => lhs; whnf)) ?_
    refine RL.nil ?_
    refine Fin.next ?_
    refine CW.seq ?_
    refine CW.region ?_
    refine RL.lit0 rfl sT22 (fun vo w4 ho4 hE4 hb4 => ?_)
    refine RL.y rfl (y_asg (by conv => lhs; whnf)) ?_
    refine RL.nil ?_
    refine Fin.next ?_
    refine CW.seq ?_
    refine CW.seq ?_
    refine CW.region ?_
    refine RL.y rfl (y_asg rfl) ?_
    refine RL.nil ?_
    refine Fin.next ?_
    refine CW.block ?_
    refine CW.loop (fun m E w' => ∃ (i : Nat) (vo : Value), m = (drs ps ds).length - i ∧ i ≤ (drs ps ds).length ∧ agrees E [(1, .pointer (some ⟨w.heap.size, 0, none⟩)), (4, vl), (5, vo), (6, .int .i64 (i : Int))] ∧ OV w' w3.heap.size 2 vo (ints (((drs ps ds).take i).filter (fun d => !decide (used ps rs d)))) ∧ Ext w3 w') _ (⟨0, vo, rfl, Nat.zero_le _, ⟨rfl, rfl, rfl, rfl, trivial⟩, ho4, hE4⟩) ?_
    · rintro m E w5 ⟨i, vo, rfl, hi, hag, ho5, hE5⟩
      refine CW.re _ hag rfl ?_
      have hle := filter_le (p := fun d => !decide (used ps rs d)) (xs := (drs ps ds).take i)
      rw [List.length_take] at hle
      refine CW.seq ?_
      refine CW.seq ?_
      refine CW.region ?_
      refine RL.y rfl (y_mov (v := .int _ _) rfl) ?_
      refine RL.y rfl (y_mov (by conv => lhs; whnf)) ?_
      refine RL.y rfl (y_len sT22 (hol.ext hE5).sv (ints_len _) rfl) ?_
      refine RL.y rfl (y_lt rfl rfl) ?_
      refine RL.nil ?_
      refine Fin.next ?_
      refine CW.cond rfl rfl (fun hc1 => ?_) (fun hc1 => ?_)
      · with_reducible first | (replace hc1 := deNF hc1) | (replace hc1 := of_decide_eq_true hc1) | (replace hc1 := of_decide_eq_false hc1) | (replace hc1 := deNT hc1) | (replace hc1 := deNN hc1) | (replace hc1 := bnT hc1) | (replace hc1 := bnF hc1) | skip
        have hlt : i < (drs ps ds).length := by omega
        have hdr := mem_idxs_door (List.getElem_mem hlt)
        refine CW.skip ?_
        refine Fin.next ?_
        refine CW.seq ?_
        refine CW.block ?_
        refine CW.seq ?_
        refine CW.region ?_
        refine RL.y rfl (y_asg rfl) ?_
        refine RL.nil ?_
        refine Fin.next ?_
        refine CW.seq ?_
        refine CW.seq ?_
        refine CW.region ?_
        refine RL.y rfl (y_asg rfl) ?_
        refine RL.nil ?_
        refine Fin.next ?_
        refine CW.block ?_
        refine CW.loop (fun m E w' => ∃ k : Nat, m = rs.length - k ∧ k ≤ rs.length ∧ agrees E [(1, .pointer (some ⟨w.heap.size, 0, none⟩)), (4, vl), (5, vo), (6, .int .i64 (i : Int)), (7, .bool (decide (usTo ps rs (drs ps ds)[i] k))), (8, .int .i64 (k : Int))] ∧ Ext w5 w') _ ⟨0, rfl, Nat.zero_le _, ⟨rfl, rfl, rfl, rfl, bF usTo_zero, rfl, trivial⟩, Ext.refl w5⟩ ?_
        · rintro m E w6 ⟨k, rfl, hkk, hagk, hE6⟩
          refine CW.re _ hagk rfl ?_
          clear hagk
          have hE16 := (hE23.trans hE5).trans hE6
          refine CW.seq ?_
          refine CW.seq ?_
          refine CW.region ?_
          refine RL.y rfl (y_mov (v := .int _ _) rfl) ?_
          refine RL.y rfl (y_fa fa33_1 rfl rfl) ?_
          refine RL.y rfl (y_loadv sc26 (eqw (hV.ext hE16)) rfl rfl) ?_
          refine RL.y rfl (y_len sT26 hc.1 hc.2.1 rfl) ?_
          refine RL.y rfl (y_lt rfl rfl) ?_
          refine RL.nil ?_
          refine Fin.next ?_
          refine CW.cond rfl rfl (fun hck => ?_) (fun hck => ?_)
          · with_reducible first | (replace hck := deNF hck) | (replace hck := of_decide_eq_true hck) | (replace hck := of_decide_eq_false hck) | (replace hck := deNT hck) | (replace hck := deNN hck) | (replace hck := bnT hck) | (replace hck := bnF hck) | skip
            have hltk : k < rs.length := by omega
            have hE06 := hE1.trans hE16
            refine CW.skip ?_
            refine Fin.next ?_
            refine CW.seq ?_
            refine CW.block ?_
            refine CW.quietE mixed (by kernel_rfl) ?_
            refine QL.y rfl (y_mov (v := .bool _) rfl) ?_
            refine QL.y rfl (y_mov (v := .bool _) rfl) ?_
            refine QL.split (t := 30) rfl rfl (fun ha => ?_) (fun ha => ?_)
            · with_reducible first | (replace ha := deNF ha) | (replace ha := of_decide_eq_true ha) | (replace ha := of_decide_eq_false ha) | (replace ha := deNT ha) | (replace ha := deNN ha) | (replace ha := bnT ha) | (replace ha := bnF ha) | skip
              refine QL.pass (t := 30) rfl rfl rfl rfl ?_
              refine QL.pass (t := 30) rfl rfl rfl rfl ?_
              refine QL.pass (t := 30) rfl rfl rfl rfl ?_
              refine QL.pass (t := 30) rfl rfl rfl rfl ?_
              refine QL.pass (t := 30) rfl rfl rfl rfl ?_
              refine QL.pass (t := 30) rfl rfl rfl rfl ?_
              refine QL.pass (t := 30) rfl rfl rfl rfl ?_
              refine QL.pass (t := 30) rfl rfl rfl rfl ?_
              refine QL.pass (t := 30) rfl rfl rfl rfl ?_
              refine QL.pass (t := 30) rfl rfl rfl rfl ?_
              refine QL.pass (t := 30) rfl rfl rfl rfl ?_
              refine QL.pass (t := 30) rfl rfl rfl rfl ?_
              refine QL.y rfl (y_pickT (v := .bool _) rfl rfl) ?_
              refine QL.y rfl (y_asg (v := .bool _) rfl) ?_
              refine QL.nil (fun w7 hE7 => ?_)
              refine Fin.blockNormal ?_
              refine Fin.next ?_
              refine CW.region ?_
              refine RL.y rfl (y_mov (v := .int _ _) rfl) ?_
              refine RL.y rfl (y_add rfl rfl (IntWalk.i64_in _ (by omega))) ?_
              refine RL.y rfl (y_asg (v := .int _ _) rfl) ?_
              refine RL.nil ?_
              refine Fin.le ?_
              exact ⟨rs.length - (k + 1), by omega, k + 1, rfl, hltk, ⟨rfl, rfl, rfl, rfl, bT ((usTo_succ hltk).2 (.inl ha)), rfl, trivial⟩, hE6.trans hE7⟩
            · with_reducible first | (replace ha := deNF ha) | (replace ha := of_decide_eq_true ha) | (replace ha := of_decide_eq_false ha) | (replace ha := deNT ha) | (replace ha := deNN ha) | (replace ha := bnT ha) | (replace ha := bnF ha) | skip
              refine QL.take (t := 30) rfl rfl rfl ?_
              refine QL.y rfl (y_fa fa33_0 rfl rfl) ?_
              refine QL.take (t := 30) rfl rfl rfl ?_
              refine QL.y rfl (y_loadp (ds := [vp, vd]) ag31 (fun _ hC => (hV.ext hE16).ext hC) rfl rfl rfl) ?_
              refine QL.take (t := 30) rfl rfl rfl ?_
              refine QL.y rfl (y_fa fa33_1 rfl rfl) ?_
              refine QL.take (t := 30) rfl rfl rfl ?_
              refine QL.y rfl (y_loadv sc26 (fun _ hC => (hV.ext hE16).ext hC) rfl rfl) ?_
              refine QL.take (t := 30) rfl rfl rfl ?_
              refine QL.y rfl (y_mov (v := .int _ _) rfl) ?_
              refine QL.take (t := 30) rfl rfl rfl ?_
              refine QL.y rfl (y_ixa sT26 (fun _ hC => (hc.1.ext hE06).ext hC) (k := k) (hc.lt hltk) rfl rfl) ?_
              refine QL.take (t := 30) rfl rfl rfl ?_
              refine QL.y rfl (y_load sc22 (fun _ hC => (hc.1.ext hE06).ext hC) (hc.at hltk) rfl) ?_
              refine QL.take (t := 30) rfl rfl rfl ?_
              refine QL.y rfl (y_mov (by conv => lhs; whnf)) ?_
              refine QL.take (t := 30) rfl rfl rfl ?_
              refine QL.y rfl (y_mov (v := .int _ _) rfl) ?_
              refine QL.take (t := 30) rfl rfl rfl ?_
              refine QL.y rfl (y_ixa sT22 (fun _ hC => (((hol.ext hE5).ext hE6).sv).ext hC) (k := i) (ints_lt hlt) rfl rfl) ?_
              refine QL.take (t := 30) rfl rfl rfl ?_
              refine QL.y rfl (y_load sc2 (fun _ hC => (((hol.ext hE5).ext hE6).sv).ext hC) (ints_at hlt) rfl) ?_
              refine QL.take (t := 30) rfl rfl rfl ?_
              refine QL.call rfl (fun _ hC => qc hC (l10May_any ((hb.ext hE06).ext hC) (((hc.row hltk).ext hE06).ext hC) (bld_tree h1.1) hdr.2 h1.1.1.1.2)) ?_
              refine QL.y rfl (y_pickF (v := .bool _) rfl rfl) ?_
              refine QL.y rfl (y_asg (v := .bool _) rfl) ?_
              refine QL.nil (fun w7 hE7 => ?_)
              refine Fin.blockNormal ?_
              refine Fin.next ?_
              refine CW.region ?_
              refine RL.y rfl (y_mov (v := .int _ _) rfl) ?_
              refine RL.y rfl (y_add rfl rfl (IntWalk.i64_in _ (by omega))) ?_
              refine RL.y rfl (y_asg (v := .int _ _) rfl) ?_
              refine RL.nil ?_
              refine Fin.le ?_
              exact ⟨rs.length - (k + 1), by omega, k + 1, rfl, hltk, ⟨rfl, rfl, rfl, rfl, bD ⟨fun h => (usTo_succ hltk).2 (.inr h), fun h => ((usTo_succ hltk).1 h).resolve_left ha⟩, rfl, trivial⟩, hE6.trans hE7⟩
          · with_reducible first | (replace hck := deNF hck) | (replace hck := of_decide_eq_true hck) | (replace hck := of_decide_eq_false hck) | (replace hck := deNT hck) | (replace hck := deNN hck) | (replace hck := bnT hck) | (replace hck := bnF hck) | skip
            obtain rfl : rs.length = k := by omega
            have hE56 := hE5.trans hE6
            refine CW.exit ?_
            refine Fin.thenExit ?_
            refine Fin.thenExit ?_
            refine Fin.blockHit ?_
            refine Fin.next ?_
            refine CW.seq ?_
            refine CW.region ?_
            refine RL.y rfl (y_mov (v := .bool _) rfl) ?_
            refine RL.y rfl (y_not rfl) ?_
            refine RL.nil ?_
            refine Fin.next ?_
            refine CW.cond rfl rfl (fun hu => ?_) (fun hu => ?_)
            · with_reducible first | (replace hu := deNF hu) | (replace hu := of_decide_eq_true hu) | (replace hu := of_decide_eq_false hu) | (replace hu := deNT hu) | (replace hu := deNN hu) | (replace hu := bnT hu) | (replace hu := bnF hu) | skip
              have hun : (!decide (used ps rs (drs ps ds)[i])) = true := by simpa using fun h => hu (usTo_all.2 h)
              refine CW.region ?_
              refine RL.y rfl (y_mov (by conv => lhs; whnf)) ?_
              refine RL.y rfl (y_mov (by conv => lhs; whnf)) ?_
              refine RL.y rfl (y_mov (v := .int _ _) rfl) ?_
              refine RL.y rfl (y_ixa sT22 (eqw (((hol.ext hE5).ext hE6).sv)) (k := i) (ints_lt hlt) rfl rfl) ?_
              refine RL.y rfl (y_load sc2 (eqw (((hol.ext hE5).ext hE6).sv)) (ints_at hlt) rfl) ?_
              refine RL.app1i rfl rfl sT22 (by omega) (ho5.ext hE6) (by omega) hE56.size rfl (fun _ => rfl) (fun u v6 w7 ho6 hg6 hn6 => ?_)
              refine RL.y rfl (y_asg (by conv => lhs; whnf)) ?_
              refine RL.nil ?_
              refine Fin.blockNormal ?_
              refine Fin.next ?_
              refine CW.region ?_
              refine RL.y rfl (y_mov (v := .int _ _) rfl) ?_
              refine RL.y rfl (y_add rfl rfl (IntWalk.i64_in _ (by omega))) ?_
              refine RL.y rfl (y_asg (v := .int _ _) rfl) ?_
              refine RL.nil ?_
              refine Fin.le ?_
              exact ⟨(drs ps ds).length - (i + 1), by omega, i + 1, v6, rfl, hlt, ⟨rfl, rfl, rfl, rfl, trivial⟩, by rw [filter_take hlt, if_pos hun]; exact ho6, hE56.grown hg6 (fun b hb => (ho5.lt b hb).1)⟩
            · with_reducible first | (replace hu := deNF hu) | (replace hu := of_decide_eq_true hu) | (replace hu := of_decide_eq_false hu) | (replace hu := deNT hu) | (replace hu := deNN hu) | (replace hu := bnT hu) | (replace hu := bnF hu) | skip
              have hun : ¬ (!decide (used ps rs (drs ps ds)[i])) = true := by simpa using usTo_all.1 hu
              refine CW.skip ?_
              refine Fin.blockNormal ?_
              refine Fin.next ?_
              refine CW.region ?_
              refine RL.y rfl (y_mov (v := .int _ _) rfl) ?_
              refine RL.y rfl (y_add rfl rfl (IntWalk.i64_in _ (by omega))) ?_
              refine RL.y rfl (y_asg (v := .int _ _) rfl) ?_
              refine RL.nil ?_
              refine Fin.le ?_
              exact ⟨(drs ps ds).length - (i + 1), by omega, i + 1, vo, rfl, hlt, ⟨rfl, rfl, rfl, rfl, trivial⟩, by rw [filter_take hlt, if_neg hun]; exact ho5.ext hE6, hE56⟩
      · with_reducible first | (replace hc1 := deNF hc1) | (replace hc1 := of_decide_eq_true hc1) | (replace hc1 := of_decide_eq_false hc1) | (replace hc1 := deNT hc1) | (replace hc1 := deNN hc1) | (replace hc1 := bnT hc1) | (replace hc1 := bnF hc1) | skip
        obtain rfl : i = (drs ps ds).length := by omega
        rw [List.take_length] at ho5
        refine CW.exit ?_
        refine Fin.thenExit ?_
        refine Fin.thenExit ?_
        refine Fin.blockHit ?_
        refine Fin.next ?_
        refine CW.seq ?_
        refine CW.region ?_
        refine RL.y rfl (y_mov (by conv => lhs; whnf)) ?_
        refine RL.y rfl (y_asg (by conv => lhs; whnf)) ?_
        refine RL.y rfl (y_asg rfl) ?_
        refine RL.nil ?_
        refine Fin.next ?_
        refine CW.ret ?_
        refine Fin.ret2 rfl (by conv => lhs; whnf) (by conv => lhs; whnf) ?_
        exact ⟨_, rfl, _, by unfold plC; rw [if_pos h1], by unfold udV; rw [if_pos h1]; exact ho5.mono (hE1.trans hE23).size, (hE1.trans hE23).trans hE5⟩

theorem specShortRights_any {w : World} {v : Value} {ps : List Int} {ds : List Bool} {rs : List (List Int)} {k : Int} (hp : RdP w v ps ds rs) :
    Does Try.prog 28 #[v, .int .i64 k] w (fun r w' => ∃ v1, r = .tuple #[v1, .int .i64 (pkC ps ds rs k)] ∧ OV w' w.heap.size 2 v1 (ints (shV ps ds rs k)) ∧ Ext w w') := by
  have hp0 := hp
  obtain ⟨vp, vd, vr, rfl, hb, hr⟩ := hp
  obtain ⟨cs, hc⟩ := hr
  refine enter Try.func28 rfl 65 Try.ntmps28 rfl (by kernel_rfl) ?_
  refine CW.seq ?_
  refine CW.region ?_
  refine RL.box (cs := [vp, vd, vr]) rfl rfl rfl (fun w1 hV hE1 => ?_)
  refine RL.y rfl (y_asg rfl) ?_
  refine RL.y rfl (y_asg rfl) ?_
  refine RL.nil ?_
  refine Fin.next ?_
  refine CW.seq ?_
  refine CW.region ?_
  refine RL.y rfl (y_loads ag33 rfl (eqw (hV)) rfl) ?_
  refine RL.y rfl (y_mov (v := .int _ _) rfl) ?_
  refine RL.call rfl (l10Code_any (hp0.ext hE1)) ?_
  rintro r w2 ⟨rfl, hE2⟩
  have hE12 := hE1.trans hE2
  refine RL.y rfl (y_asg (v := .int _ _) rfl) ?_
  refine RL.nil ?_
  refine Fin.next ?_
  refine CW.seq ?_
  refine CW.seq ?_
  refine CW.region ?_
  refine RL.y rfl (y_mov (v := .int _ _) rfl) ?_
  refine RL.y rfl (y_ne rfl rfl) ?_
  refine RL.nil ?_
  refine Fin.next ?_
  refine CW.cond rfl rfl (fun h1 => ?_) (fun h1 => ?_)
  · with_reducible first | (replace h1 := deNF h1) | (replace h1 := of_decide_eq_true h1) | (replace h1 := of_decide_eq_false h1) | (replace h1 := deNT h1) | (replace h1 := deNN h1) | (replace h1 := bnT h1) | (replace h1 := bnF h1) | skip
    refine CW.seq ?_
    refine CW.region ?_
    refine RL.y rfl (y_mov (v := .int _ _) rfl) ?_
    refine RL.y rfl (y_asg rfl) ?_
    refine RL.y rfl (y_asg (v := .int _ _) rfl) ?_
    refine RL.nil ?_
    refine Fin.next ?_
    refine CW.ret ?_
    refine Fin.thenRet ?_
    refine Fin.ret2 rfl (by conv => lhs; whnf) (by conv => lhs; whnf) ?_
    exact ⟨_, rfl, _, rfl, by unfold shV; rw [if_neg h1]; exact OV.nil _ _ _, hE12⟩
  · with_reducible first | (replace h1 := deNF h1) | (replace h1 := of_decide_eq_true h1) | (replace h1 := of_decide_eq_false h1) | (replace h1 := deNT h1) | (replace h1 := deNN h1) | (replace h1 := bnT h1) | (replace h1 := bnF h1) | skip
    obtain ⟨hpl, hk⟩ := pkC_zero.1 h1
    obtain ⟨hkl, hrow⟩ := row_at hk
    have hk2 := hk.2
    have hri := (hpl.2.2 _ (List.getElem_mem hkl)).2
    have hmem := rises_mem hri
    have hnl := rises_len hri
    have h24 := hpl.1.1.1
    have hcr := hc.row hkl
    refine CW.skip ?_
    refine Fin.next ?_
    refine CW.seq ?_
    refine CW.region ?_
    refine RL.y rfl (y_fa fa33_1 rfl rfl) ?_
    refine RL.y rfl (y_loadv sc26 (eqw (hV.ext hE2)) rfl rfl) ?_
    refine RL.y rfl (y_mov (v := .int _ _) rfl) ?_
    refine RL.y rfl (y_ixi sT26 (eqw (hc.1.ext hE12)) hk.1 (by rw [hc.2.1]; omega) rfl rfl) ?_
    refine RL.y rfl (y_load sc22 (eqw (hc.1.ext hE12)) (hc.at hkl) rfl) ?_
    generalize rs[k.toNat] = ns at hri hmem hnl hcr hrow
    generalize cs.getD k.toNat undef = vn at hcr
    refine RL.y rfl (y_asg (by conv => lhs; whnf)) ?_
    refine RL.nil ?_
    refine Fin.next ?_
    refine CW.seq ?_
    refine CW.region ?_
    refine RL.lit0 rfl sT22 (fun vo w3 ho3 hE3 hb3 => ?_)
    refine RL.y rfl (y_asg (by conv => lhs; whnf)) ?_
    refine RL.nil ?_
    refine Fin.next ?_
    refine CW.seq ?_
    refine CW.seq ?_
    refine CW.region ?_
    refine RL.y rfl (y_asg rfl) ?_
    refine RL.nil ?_
    refine Fin.next ?_
    refine CW.block ?_
    refine CW.loop (fun m E w' => ∃ (i : Nat) (vo : Value), m = ns.length - i ∧ i ≤ ns.length ∧ agrees E [(2, .pointer (some ⟨w.heap.size, 0, none⟩)), (7, vn), (8, vo), (9, .int .i64 (i : Int))] ∧ OV w' w2.heap.size 2 vo (ints ((ns.take i).filter (fun x => !decide (shP ps ns x)))) ∧ Ext w2 w') _ (⟨0, vo, rfl, Nat.zero_le _, ⟨rfl, rfl, rfl, rfl, trivial⟩, ho3, hE3⟩) ?_
    · rintro m E w5 ⟨i, vo, rfl, hi, hag, ho5, hE5⟩
      refine CW.re _ hag rfl ?_
      have hle := filter_le (p := fun x => !decide (shP ps ns x)) (xs := ns.take i)
      rw [List.length_take] at hle
      refine CW.seq ?_
      refine CW.seq ?_
      refine CW.region ?_
      refine RL.y rfl (y_mov (v := .int _ _) rfl) ?_
      refine RL.y rfl (y_mov (by conv => lhs; whnf)) ?_
      refine RL.y rfl (y_len sT22 (hcr.ext (hE12.trans hE5)) (ints_len _) rfl) ?_
      refine RL.y rfl (y_lt rfl rfl) ?_
      refine RL.nil ?_
      refine Fin.next ?_
      refine CW.cond rfl rfl (fun hc1 => ?_) (fun hc1 => ?_)
      · with_reducible first | (replace hc1 := deNF hc1) | (replace hc1 := of_decide_eq_true hc1) | (replace hc1 := of_decide_eq_false hc1) | (replace hc1 := deNT hc1) | (replace hc1 := deNN hc1) | (replace hc1 := bnT hc1) | (replace hc1 := bnF hc1) | skip
        have hlt : i < ns.length := by omega
        have hxi := hmem _ (List.getElem_mem hlt)
        refine CW.skip ?_
        refine Fin.next ?_
        refine CW.seq ?_
        refine CW.block ?_
        refine CW.seq ?_
        refine CW.region ?_
        refine RL.y rfl (y_asg rfl) ?_
        refine RL.nil ?_
        refine Fin.next ?_
        refine CW.seq ?_
        refine CW.seq ?_
        refine CW.region ?_
        refine RL.y rfl (y_asg rfl) ?_
        refine RL.nil ?_
        refine Fin.next ?_
        refine CW.block ?_
        refine CW.loop (fun m E w' => ∃ j : Nat, m = ns.length - j ∧ j ≤ ns.length ∧ agrees E [(2, .pointer (some ⟨w.heap.size, 0, none⟩)), (7, vn), (8, vo), (9, .int .i64 (i : Int)), (10, .bool (decide (shTo ps ns ns[i] j))), (11, .int .i64 (j : Int))] ∧ Ext w5 w') _ ⟨0, rfl, Nat.zero_le _, ⟨rfl, rfl, rfl, rfl, bF shTo_zero, rfl, trivial⟩, Ext.refl w5⟩ ?_
        · rintro m E w6 ⟨j, rfl, hkj, hagj, hE6⟩
          refine CW.re _ hagj rfl ?_
          clear hagj
          have hE16 := (hE2.trans hE5).trans hE6
          have hE06 := hE1.trans hE16
          refine CW.seq ?_
          refine CW.seq ?_
          refine CW.region ?_
          refine RL.y rfl (y_mov (v := .int _ _) rfl) ?_
          refine RL.y rfl (y_mov (by conv => lhs; whnf)) ?_
          refine RL.y rfl (y_len sT22 (hcr.ext hE06) (ints_len _) rfl) ?_
          refine RL.y rfl (y_lt rfl rfl) ?_
          refine RL.nil ?_
          refine Fin.next ?_
          refine CW.cond rfl rfl (fun hcj => ?_) (fun hcj => ?_)
          · with_reducible first | (replace hcj := deNF hcj) | (replace hcj := of_decide_eq_true hcj) | (replace hcj := of_decide_eq_false hcj) | (replace hcj := deNT hcj) | (replace hcj := deNN hcj) | (replace hcj := bnT hcj) | (replace hcj := bnF hcj) | skip
            have hltj : j < ns.length := by omega
            have hne : ns[j] = ns[i] ↔ j = i := rises_inj hri hltj hlt
            refine CW.skip ?_
            refine Fin.next ?_
            refine CW.seq ?_
            refine CW.block ?_
            refine CW.quietE mixed (by kernel_rfl) ?_
            refine QL.y rfl (y_mov (v := .bool _) rfl) ?_
            refine QL.y rfl (y_mov (v := .bool _) rfl) ?_
            refine QL.split (t := 37) rfl rfl (fun ha => ?_) (fun ha => ?_)
            · with_reducible first | (replace ha := deNF ha) | (replace ha := of_decide_eq_true ha) | (replace ha := of_decide_eq_false ha) | (replace ha := deNT ha) | (replace ha := deNN ha) | (replace ha := bnT ha) | (replace ha := bnF ha) | skip
              refine QL.pass (t := 37) rfl rfl rfl rfl ?_
              refine QL.pass (t := 37) rfl rfl rfl rfl ?_
              refine QL.pass (t := 37) rfl rfl rfl rfl ?_
              refine QL.pass (t := 37) rfl rfl rfl rfl ?_
              refine QL.pass2 (t := 41) rfl rfl rfl rfl ?_
              refine QL.pass2 (t := 41) rfl rfl rfl rfl ?_
              refine QL.pass2 (t := 41) rfl rfl rfl rfl ?_
              refine QL.pass2 (t := 41) rfl rfl rfl rfl ?_
              refine QL.pass2 (t := 41) rfl rfl rfl rfl ?_
              refine QL.pass2 (t := 41) rfl rfl rfl rfl ?_
              refine QL.pass2 (t := 41) rfl rfl rfl rfl ?_
              refine QL.pass2 (t := 41) rfl rfl rfl rfl ?_
              refine QL.pass2 (t := 41) rfl rfl rfl rfl ?_
              refine QL.pass2 (t := 41) rfl rfl rfl rfl ?_
              refine QL.pass2 (t := 41) rfl rfl rfl rfl ?_
              refine QL.pass (t := 37) rfl rfl rfl rfl ?_
              refine QL.y rfl (y_pickT (v := .bool _) rfl rfl) ?_
              refine QL.y rfl (y_asg (v := .bool _) rfl) ?_
              refine QL.nil (fun w7 hE7 => ?_)
              refine Fin.blockNormal ?_
              refine Fin.next ?_
              refine CW.region ?_
              refine RL.y rfl (y_mov (v := .int _ _) rfl) ?_
              refine RL.y rfl (y_add rfl rfl (IntWalk.i64_in _ (by omega))) ?_
              refine RL.y rfl (y_asg (v := .int _ _) rfl) ?_
              refine RL.nil ?_
              refine Fin.le ?_
              exact ⟨ns.length - (j + 1), by omega, j + 1, rfl, hltj, ⟨rfl, rfl, rfl, rfl, bT ((shTo_succ hltj).2 (.inl ha)), rfl, trivial⟩, hE6.trans hE7⟩
            · with_reducible first | (replace ha := deNF ha) | (replace ha := of_decide_eq_true ha) | (replace ha := of_decide_eq_false ha) | (replace ha := deNT ha) | (replace ha := deNN ha) | (replace ha := bnT ha) | (replace ha := bnF ha) | skip
              refine QL.take (t := 37) rfl rfl rfl ?_
              refine QL.y rfl (y_mov (v := .int _ _) rfl) ?_
              refine QL.take (t := 37) rfl rfl rfl ?_
              refine QL.y rfl (y_mov (v := .int _ _) rfl) ?_
              refine QL.take (t := 37) rfl rfl rfl ?_
              refine QL.y rfl (y_ne rfl rfl) ?_
              refine QL.take (t := 37) rfl rfl rfl ?_
              refine QL.y rfl (y_mov (v := .bool _) rfl) ?_
              refine QL.split (t := 41) rfl rfl (fun hb2 => ?_) (fun hb2 => ?_)
              · with_reducible first | (replace hb2 := deNF hb2) | (replace hb2 := of_decide_eq_true hb2) | (replace hb2 := of_decide_eq_false hb2) | (replace hb2 := deNT hb2) | (replace hb2 := deNN hb2) | (replace hb2 := bnT hb2) | (replace hb2 := bnF hb2) | skip
                refine QL.take (t := 41) rfl rfl rfl ?_
                refine QL.y rfl (y_fa fa33_0 rfl rfl) ?_
                refine QL.take (t := 41) rfl rfl rfl ?_
                refine QL.y rfl (y_loadp (ds := [vp, vd]) ag31 (fun _ hC => (hV.ext hE16).ext hC) rfl rfl rfl) ?_
                refine QL.take (t := 41) rfl rfl rfl ?_
                refine QL.y rfl (y_mov (by conv => lhs; whnf)) ?_
                refine QL.take (t := 41) rfl rfl rfl ?_
                refine QL.y rfl (y_mov (v := .int _ _) rfl) ?_
                refine QL.take (t := 41) rfl rfl rfl ?_
                refine QL.y rfl (y_ixa sT22 (fun _ hC => (hcr.ext hE06).ext hC) (k := i) (ints_lt hlt) rfl rfl) ?_
                refine QL.take (t := 41) rfl rfl rfl ?_
                refine QL.y rfl (y_load sc2 (fun _ hC => (hcr.ext hE06).ext hC) (ints_at hlt) rfl) ?_
                refine QL.take (t := 41) rfl rfl rfl ?_
                refine QL.y rfl (y_mov (by conv => lhs; whnf)) ?_
                refine QL.take (t := 41) rfl rfl rfl ?_
                refine QL.y rfl (y_mov (v := .int _ _) rfl) ?_
                refine QL.take (t := 41) rfl rfl rfl ?_
                refine QL.y rfl (y_ixa sT22 (fun _ hC => (hcr.ext hE06).ext hC) (k := j) (ints_lt hltj) rfl rfl) ?_
                refine QL.take (t := 41) rfl rfl rfl ?_
                refine QL.y rfl (y_load sc2 (fun _ hC => (hcr.ext hE06).ext hC) (ints_at hltj) rfl) ?_
                refine QL.take (t := 41) rfl rfl rfl ?_
                refine QL.call rfl (fun _ hC => qc hC (l09Under_any ((hb.ext hE06).ext hC) (bld_tree hpl.1) hxi.2 h24.2)) ?_
                refine QL.take (t := 37) rfl rfl rfl ?_
                refine QL.y rfl (y_pickT (v := .bool _) rfl rfl) ?_
                refine QL.y rfl (y_pickF (v := .bool _) rfl rfl) ?_
                refine QL.y rfl (y_asg (v := .bool _) rfl) ?_
                refine QL.nil (fun w7 hE7 => ?_)
                refine Fin.blockNormal ?_
                refine Fin.next ?_
                refine CW.region ?_
                refine RL.y rfl (y_mov (v := .int _ _) rfl) ?_
                refine RL.y rfl (y_add rfl rfl (IntWalk.i64_in _ (by omega))) ?_
                refine RL.y rfl (y_asg (v := .int _ _) rfl) ?_
                refine RL.nil ?_
                refine Fin.le ?_
                exact ⟨ns.length - (j + 1), by omega, j + 1, rfl, hltj, ⟨rfl, rfl, rfl, rfl, bD ⟨fun h => (shTo_succ hltj).2 (.inr ⟨fun e => hb2 (by rw [hne.1 e]), h⟩), fun h => (((shTo_succ hltj).1 h).resolve_left ha).2⟩, rfl, trivial⟩, hE6.trans hE7⟩
              · with_reducible first | (replace hb2 := deNF hb2) | (replace hb2 := of_decide_eq_true hb2) | (replace hb2 := of_decide_eq_false hb2) | (replace hb2 := deNT hb2) | (replace hb2 := deNN hb2) | (replace hb2 := bnT hb2) | (replace hb2 := bnF hb2) | skip
                refine QL.pass (t := 41) rfl rfl rfl rfl ?_
                refine QL.pass (t := 41) rfl rfl rfl rfl ?_
                refine QL.pass (t := 41) rfl rfl rfl rfl ?_
                refine QL.pass (t := 41) rfl rfl rfl rfl ?_
                refine QL.pass (t := 41) rfl rfl rfl rfl ?_
                refine QL.pass (t := 41) rfl rfl rfl rfl ?_
                refine QL.pass (t := 41) rfl rfl rfl rfl ?_
                refine QL.pass (t := 41) rfl rfl rfl rfl ?_
                refine QL.pass (t := 41) rfl rfl rfl rfl ?_
                refine QL.pass (t := 41) rfl rfl rfl rfl ?_
                refine QL.pass (t := 41) rfl rfl rfl rfl ?_
                refine QL.take (t := 37) rfl rfl rfl ?_
                refine QL.y rfl (y_pickF (v := .bool _) rfl rfl) ?_
                refine QL.y rfl (y_pickF (v := .bool _) rfl rfl) ?_
                refine QL.y rfl (y_asg (v := .bool _) rfl) ?_
                refine QL.nil (fun w7 hE7 => ?_)
                refine Fin.blockNormal ?_
                refine Fin.next ?_
                refine CW.region ?_
                refine RL.y rfl (y_mov (v := .int _ _) rfl) ?_
                refine RL.y rfl (y_add rfl rfl (IntWalk.i64_in _ (by omega))) ?_
                refine RL.y rfl (y_asg (v := .int _ _) rfl) ?_
                refine RL.nil ?_
                refine Fin.le ?_
                exact ⟨ns.length - (j + 1), by omega, j + 1, rfl, hltj, ⟨rfl, rfl, rfl, rfl, bF (fun h => (((shTo_succ hltj).1 h).resolve_left ha).1 (hne.2 (by omega))), rfl, trivial⟩, hE6.trans hE7⟩
          · with_reducible first | (replace hcj := deNF hcj) | (replace hcj := of_decide_eq_true hcj) | (replace hcj := of_decide_eq_false hcj) | (replace hcj := deNT hcj) | (replace hcj := deNN hcj) | (replace hcj := bnT hcj) | (replace hcj := bnF hcj) | skip
            obtain rfl : ns.length = j := by omega
            have hE56 := hE5.trans hE6
            refine CW.exit ?_
            refine Fin.thenExit ?_
            refine Fin.thenExit ?_
            refine Fin.blockHit ?_
            refine Fin.next ?_
            refine CW.seq ?_
            refine CW.region ?_
            refine RL.y rfl (y_mov (v := .bool _) rfl) ?_
            refine RL.y rfl (y_not rfl) ?_
            refine RL.nil ?_
            refine Fin.next ?_
            refine CW.cond rfl rfl (fun hu => ?_) (fun hu => ?_)
            · with_reducible first | (replace hu := deNF hu) | (replace hu := of_decide_eq_true hu) | (replace hu := of_decide_eq_false hu) | (replace hu := deNT hu) | (replace hu := deNN hu) | (replace hu := bnT hu) | (replace hu := bnF hu) | skip
              have hun : (!decide (shP ps ns ns[i])) = true := by simpa using fun h => hu (shTo_all.2 h)
              refine CW.region ?_
              refine RL.y rfl (y_mov (by conv => lhs; whnf)) ?_
              refine RL.y rfl (y_mov (by conv => lhs; whnf)) ?_
              refine RL.y rfl (y_mov (v := .int _ _) rfl) ?_
              refine RL.y rfl (y_ixa sT22 (eqw (hcr.ext (hE12.trans hE56))) (k := i) (ints_lt hlt) rfl rfl) ?_
              refine RL.y rfl (y_load sc2 (eqw (hcr.ext (hE12.trans hE56))) (ints_at hlt) rfl) ?_
              refine RL.app1i rfl rfl sT22 (by omega) (ho5.ext hE6) (by omega) hE56.size rfl (fun _ => rfl) (fun u v6 w7 ho6 hg6 hn6 => ?_)
              refine RL.y rfl (y_asg (by conv => lhs; whnf)) ?_
              refine RL.nil ?_
              refine Fin.blockNormal ?_
              refine Fin.next ?_
              refine CW.region ?_
              refine RL.y rfl (y_mov (v := .int _ _) rfl) ?_
              refine RL.y rfl (y_add rfl rfl (IntWalk.i64_in _ (by omega))) ?_
              refine RL.y rfl (y_asg (v := .int _ _) rfl) ?_
              refine RL.nil ?_
              refine Fin.le ?_
              exact ⟨ns.length - (i + 1), by omega, i + 1, v6, rfl, hlt, ⟨rfl, rfl, rfl, rfl, trivial⟩, by rw [filter_take hlt, if_pos hun]; exact ho6, hE56.grown hg6 (fun b hb => (ho5.lt b hb).1)⟩
            · with_reducible first | (replace hu := deNF hu) | (replace hu := of_decide_eq_true hu) | (replace hu := of_decide_eq_false hu) | (replace hu := deNT hu) | (replace hu := deNN hu) | (replace hu := bnT hu) | (replace hu := bnF hu) | skip
              have hun : ¬ (!decide (shP ps ns ns[i])) = true := by simpa using shTo_all.1 hu
              refine CW.skip ?_
              refine Fin.blockNormal ?_
              refine Fin.next ?_
              refine CW.region ?_
              refine RL.y rfl (y_mov (v := .int _ _) rfl) ?_
              refine RL.y rfl (y_add rfl rfl (IntWalk.i64_in _ (by omega))) ?_
              refine RL.y rfl (y_asg (v := .int _ _) rfl) ?_
              refine RL.nil ?_
              refine Fin.le ?_
              exact ⟨ns.length - (i + 1), by omega, i + 1, vo, rfl, hlt, ⟨rfl, rfl, rfl, rfl, trivial⟩, by rw [filter_take hlt, if_neg hun]; exact ho5.ext hE6, hE56⟩
      · with_reducible first | (replace hc1 := deNF hc1) | (replace hc1 := of_decide_eq_true hc1) | (replace hc1 := of_decide_eq_false hc1) | (replace hc1 := deNT hc1) | (replace hc1 := deNN hc1) | (replace hc1 := bnT hc1) | (replace hc1 := bnF hc1) | skip
        obtain rfl : i = ns.length := by omega
        rw [List.take_length] at ho5
        refine CW.exit ?_
        refine Fin.thenExit ?_
        refine Fin.thenExit ?_
        refine Fin.blockHit ?_
        refine Fin.next ?_
        refine CW.seq ?_
        refine CW.region ?_
        refine RL.y rfl (y_mov (by conv => lhs; whnf)) ?_
        refine RL.y rfl (y_asg (by conv => lhs; whnf)) ?_
        refine RL.y rfl (y_asg rfl) ?_
        refine RL.nil ?_
        refine Fin.next ?_
        refine CW.ret ?_
        refine Fin.ret2 rfl (by conv => lhs; whnf) (by conv => lhs; whnf) ?_
        exact ⟨_, rfl, _, by rw [h1], by unfold shV; rw [if_pos h1, hrow]; exact ho5.mono hE12.size, hE12.trans hE5⟩

theorem shortRights1_any {w : World} {vp vd vr : Value} {b c : Nat} {ps : List Int} {ds : List Bool} {x y : Int} (hV : VR w b [vp, vd, vr]) (hW : VR w c [.int .i64 x]) (hb : RdB w (.agg #[vp, vd]) ps ds) (ht : tree ps) (hx : x < ps.length) (hy : 0 ≤ y) (hl : ps.length ≤ 24) :
    Does Try.prog 83 #[.int .i64 y, .pointer (some ⟨c, 0, none⟩), .pointer (some ⟨b, 0, none⟩)] w (fun r w' => r = .bool (decide (y ≠ x ∧ under ps x y)) ∧ Ext w w') := by
  refine enter Try.func83 rfl 15 Try.ntmps83 rfl (by kernel_rfl) ?_
  refine CW.seq ?_
  refine CW.region ?_
  refine RL.y rfl (y_asg rfl) ?_
  refine RL.nil ?_
  refine Fin.next ?_
  refine CW.seq ?_
  refine CW.region ?_
  refine RL.y rfl (y_mov (v := .int _ _) rfl) ?_
  refine RL.y rfl (y_loadv sc2 (eqw (hW)) rfl rfl) ?_
  refine RL.y rfl (y_ne rfl rfl) ?_
  refine RL.y rfl (y_mov (v := .bool _) rfl) ?_
  refine RL.split (t := 8) rfl rfl (fun h1 => ?_) (fun h1 => ?_)
  · with_reducible first | (replace h1 := deNF h1) | (replace h1 := of_decide_eq_true h1) | (replace h1 := of_decide_eq_false h1) | (replace h1 := deNT h1) | (replace h1 := deNN h1) | (replace h1 := bnT h1) | (replace h1 := bnF h1) | skip
    refine RL.take (t := 8) rfl rfl rfl ?_
    refine RL.y rfl (y_fa fa33_0 rfl rfl) ?_
    refine RL.take (t := 8) rfl rfl rfl ?_
    refine RL.y rfl (y_loadp (ds := [vp, vd]) ag31 (eqw (hV)) rfl rfl rfl) ?_
    refine RL.take (t := 8) rfl rfl rfl ?_
    refine RL.y rfl (y_loadv sc2 (eqw (hW)) rfl rfl) ?_
    refine RL.take (t := 8) rfl rfl rfl ?_
    refine RL.y rfl (y_mov (v := .int _ _) rfl) ?_
    refine RL.take (t := 8) rfl rfl rfl ?_
    refine RL.call rfl (isUnder_any hb ht hx hy hl) ?_
    rintro r w1 ⟨rfl, hE1⟩
    refine RL.y rfl (y_pickT (v := .bool _) rfl rfl) ?_
    refine RL.y rfl (y_asg (v := .bool _) rfl) ?_
    refine RL.nil ?_
    refine Fin.next ?_
    refine CW.ret ?_
    refine Fin.ret1 rfl (by conv => lhs; whnf) ?_
    exact ⟨_, rfl, bD ⟨fun h => ⟨h1, h⟩, fun h => h.2⟩, hE1⟩
  · with_reducible first | (replace h1 := deNF h1) | (replace h1 := of_decide_eq_true h1) | (replace h1 := of_decide_eq_false h1) | (replace h1 := deNT h1) | (replace h1 := deNN h1) | (replace h1 := bnT h1) | (replace h1 := bnF h1) | skip
    refine RL.pass (t := 8) rfl rfl rfl rfl ?_
    refine RL.pass (t := 8) rfl rfl rfl rfl ?_
    refine RL.pass (t := 8) rfl rfl rfl rfl ?_
    refine RL.pass (t := 8) rfl rfl rfl rfl ?_
    refine RL.pass (t := 8) rfl rfl rfl rfl ?_
    refine RL.y rfl (y_pickF (v := .bool _) rfl rfl) ?_
    refine RL.y rfl (y_asg (v := .bool _) rfl) ?_
    refine RL.nil ?_
    refine Fin.next ?_
    refine CW.ret ?_
    refine Fin.ret1 rfl (by conv => lhs; whnf) ?_
    exact ⟨_, rfl, bF (fun h => h.1 h1), Ext.refl w⟩

theorem implShortRights_any {w : World} {v : Value} {ps : List Int} {ds : List Bool} {rs : List (List Int)} {k : Int} (hp : RdP w v ps ds rs) :
    Does Try.prog 29 #[v, .int .i64 k] w (fun r w' => ∃ v1, r = .tuple #[v1, .int .i64 (pkC ps ds rs k)] ∧ OV w' w.heap.size 2 v1 (ints (shV ps ds rs k)) ∧ Ext w w') := by
  have hp0 := hp
  obtain ⟨vp, vd, vr, rfl, hb, hr⟩ := hp
  obtain ⟨cs, hc⟩ := hr
  refine enter Try.func29 rfl 43 Try.ntmps29 rfl (by kernel_rfl) ?_
  refine CW.seq ?_
  refine CW.region ?_
  refine RL.box (cs := [vp, vd, vr]) rfl rfl rfl (fun w1 hV hE1 => ?_)
  refine RL.y rfl (y_asg rfl) ?_
  refine RL.y rfl (y_asg rfl) ?_
  refine RL.nil ?_
  refine Fin.next ?_
  refine CW.seq ?_
  refine CW.seq ?_
  refine CW.tape (Ext _) [5, 4, 3] mixed (by kernel_rfl) (by kernel_rfl) (Ext.drew _) ?_
  refine TL.y rfl rfl (y_loads ag33 rfl (fun _ hC => (hV).ext hC) rfl) ?_
  refine TL.y rfl rfl (y_mov (v := .int _ _) rfl) ?_
  refine TL.y rfl rfl (y_loads ag33 rfl (fun _ hC => (hV).ext hC) rfl) ?_
  refine TL.op rfl (fun hC => ?_)
  refine RL.call rfl (someDoor_any ((hp0.ext hE1).ext hC)) ?_
  rintro r w2 ⟨i, rfl, hi, hE2⟩
  refine RL.nil ?_
  refine Fin.tl (hC.trans hE2) ?_
  refine TL.op rfl (fun hC => ?_)
  refine RL.call rfl (planCode_any ((hp0.ext hE1).ext hC)) ?_
  rintro r w2 ⟨rfl, hE3⟩
  refine RL.nil ?_
  refine Fin.tl (hC.trans hE3) ?_
  refine TL.yc rfl rfl (y_asg (v := .int _ _) rfl) ?_
  refine TL.nil (fun hC => ?_)
  rw [pcC_key hi]
  have hE12 := hE1.trans hC
  refine Fin.next ?_
  refine CW.seq ?_
  refine CW.region ?_
  refine RL.y rfl (y_mov (v := .int _ _) rfl) ?_
  refine RL.y rfl (y_ne rfl rfl) ?_
  refine RL.nil ?_
  refine Fin.next ?_
  refine CW.cond rfl rfl (fun h1 => ?_) (fun h1 => ?_)
  · with_reducible first | (replace h1 := deNF h1) | (replace h1 := of_decide_eq_true h1) | (replace h1 := of_decide_eq_false h1) | (replace h1 := deNT h1) | (replace h1 := deNN h1) | (replace h1 := bnT h1) | (replace h1 := bnF h1) | skip
    refine CW.seq ?_
    refine CW.region ?_
    refine RL.y rfl (y_mov (v := .int _ _) rfl) ?_
    refine RL.y rfl (y_asg rfl) ?_
    refine RL.y rfl (y_asg (v := .int _ _) rfl) ?_
    refine RL.nil ?_
    refine Fin.next ?_
    refine CW.ret ?_
    refine Fin.thenRet ?_
    refine Fin.ret2 rfl (by conv => lhs; whnf) (by conv => lhs; whnf) ?_
    exact ⟨_, rfl, _, rfl, by unfold shV; rw [if_neg h1]; exact OV.nil _ _ _, hE12⟩
  · with_reducible first | (replace h1 := deNF h1) | (replace h1 := of_decide_eq_true h1) | (replace h1 := of_decide_eq_false h1) | (replace h1 := deNT h1) | (replace h1 := deNN h1) | (replace h1 := bnT h1) | (replace h1 := bnF h1) | skip
    obtain ⟨hpl, hk⟩ := pkC_zero.1 h1
    obtain ⟨hkl, hrow⟩ := row_at hk
    have hk2 := hk.2
    have hri := (hpl.2.2 _ (List.getElem_mem hkl)).2
    have hmem := rises_mem hri
    have hnl := rises_len hri
    have h24 := hpl.1.1.1
    have hcr := hc.row hkl
    refine CW.skip ?_
    refine Fin.next ?_
    refine CW.seq ?_
    refine CW.region ?_
    refine RL.lit0 rfl sT22 (fun vo w3 ho3 hE3 hb3 => ?_)
    have hE23 := hC.trans hE3
    have hE13 := hE1.trans hE23
    refine RL.y rfl (y_asg (by conv => lhs; whnf)) ?_
    refine RL.nil ?_
    refine Fin.next ?_
    refine CW.seq ?_
    refine CW.seq ?_
    refine CW.region ?_
    refine RL.y rfl (y_fa fa33_1 rfl rfl) ?_
    refine RL.y rfl (y_loadv sc26 (eqw (hV.ext hE23)) rfl rfl) ?_
    refine RL.y rfl (y_mov (v := .int _ _) rfl) ?_
    refine RL.y rfl (y_ixi sT26 (eqw (hc.1.ext hE13)) hk.1 (by rw [hc.2.1]; omega) rfl rfl) ?_
    refine RL.y rfl (y_load sc22 (eqw (hc.1.ext hE13)) (hc.at hkl) rfl) ?_
    refine RL.y rfl (y_len sT22 hcr (ints_len _) rfl) ?_
    refine RL.y rfl (y_mov rfl) ?_
    refine RL.nil ?_
    refine Fin.next ?_
    refine CW.block ?_
    refine CW.loop (fun m E w' => ∃ (i : Nat) (vo : Value), m = rs[k.toNat].length - i ∧ i ≤ rs[k.toNat].length ∧ agrees E [(1, .int .i64 k), (2, .pointer (some ⟨w.heap.size, 0, none⟩)), (7, vo), (23, cs.getD k.toNat undef), (24, .int .i64 rs[k.toNat].length), (25, .int .i64 (i : Int))] ∧ OV w' w2.heap.size 2 vo (ints ((rs[k.toNat].take i).filter (fun x => !decide (shP ps rs[k.toNat] x)))) ∧ Ext w2 w') _ (⟨0, vo, rfl, Nat.zero_le _, ⟨rfl, rfl, rfl, rfl, rfl, rfl, trivial⟩, ho3, hE3⟩) ?_
    · rintro m E w5 ⟨i, vo, rfl, hi, hag, ho5, hE5⟩
      refine CW.re _ hag rfl ?_
      have hle := filter_le (p := fun x => !decide (shP ps rs[k.toNat] x)) (xs := rs[k.toNat].take i)
      rw [List.length_take] at hle
      refine CW.seq ?_
      refine CW.region ?_
      refine RL.y rfl (y_lt rfl rfl) ?_
      refine RL.nil ?_
      refine Fin.next ?_
      refine CW.seq ?_
      refine CW.cond rfl rfl (fun hc1 => ?_) (fun hc1 => ?_)
      · with_reducible first | (replace hc1 := deNF hc1) | (replace hc1 := of_decide_eq_true hc1) | (replace hc1 := of_decide_eq_false hc1) | (replace hc1 := deNT hc1) | (replace hc1 := deNN hc1) | (replace hc1 := bnT hc1) | (replace hc1 := bnF hc1) | skip
        have hlt : i < rs[k.toNat].length := by omega
        have hxi := hmem _ (List.getElem_mem hlt)
        have hE15 := hE12.trans hE5
        refine CW.skip ?_
        refine Fin.next ?_
        refine CW.seq ?_
        refine CW.block ?_
        refine CW.seq ?_
        refine CW.region ?_
        refine RL.y rfl (y_ixa sT22 (eqw (hcr.ext hE15)) (k := i) (ints_lt hlt) rfl rfl) ?_
        refine RL.y rfl (y_load sc2 (eqw (hcr.ext hE15)) (ints_at hlt) rfl) ?_
        refine RL.alloc rfl ze2 (fun w6 hW6 hE6 => ?_)
        refine RL.storev so2 (hW6) (by simp) rfl rfl (rfl) (fun w7 hW7 hg7 => ?_)
        replace hW7 : VR w7 w5.heap.size [.int .i64 (rs[k.toNat])[i]] := hW7
        have hs6 := hE6.size
        have hE57 : Ext w5 w7 := hE6.grown hg7 (fun b hb => by simp only [Option.some.injEq] at hb; omega)
        have hE17 := hE15.trans hE57
        have hV7 := ((hV.ext hC).ext hE5).ext hE57
        refine RL.nil ?_
        refine Fin.next ?_
        refine CW.seq ?_
        refine CW.region ?_
        refine RL.y rfl (y_fa fa33_1 rfl rfl) ?_
        refine RL.y rfl (y_loadv sc26 (eqw (hV7)) rfl rfl) ?_
        refine RL.y rfl (y_mov (v := .int _ _) rfl) ?_
        refine RL.y rfl (y_ixi sT26 (eqw (hc.1.ext hE17)) hk.1 (by rw [hc.2.1]; omega) rfl rfl) ?_
        refine RL.y rfl (y_load sc22 (eqw (hc.1.ext hE17)) (hc.at hkl) rfl) ?_
        refine RL.y rfl (y_fnl rfl) ?_
        refine RL.call rfl (ContainsFuncI_any (fun y => decide (y ≠ (rs[k.toNat])[i] ∧ under ps (rs[k.toNat])[i] y)) (hcr.ext hE17) (fun w' y h hy => shortRights1_any (hV7.ext h) (hW7.ext h) ((hb.ext hE17).ext h) (bld_tree hpl.1) hxi.2 (hmem y hy).1 h24.2)) ?_
        rintro r w8 ⟨rfl, hE8⟩
        rw [any_dec]
        have hE58 := hE57.trans hE8
        have hE28 := hE5.trans hE58
        refine RL.y rfl (y_not rfl) ?_
        refine RL.nil ?_
        refine Fin.next ?_
        refine CW.cond rfl rfl (fun hu => ?_) (fun hu => ?_)
        · with_reducible first | (replace hu := deNF hu) | (replace hu := of_decide_eq_true hu) | (replace hu := of_decide_eq_false hu) | (replace hu := deNT hu) | (replace hu := deNN hu) | (replace hu := bnT hu) | (replace hu := bnF hu) | skip
          have hun : (!decide (shP ps rs[k.toNat] (rs[k.toNat])[i])) = true := by rw [decide_eq_false (show ¬ shP ps rs[k.toNat] (rs[k.toNat])[i] from hu)]; rfl
          refine CW.region ?_
          refine RL.y rfl (y_mov (by conv => lhs; whnf)) ?_
          refine RL.y rfl (y_loadv sc2 (eqw (hW7.ext hE8)) rfl rfl) ?_
          refine RL.app1i rfl rfl sT22 (by omega) (ho5.ext hE58) (by omega) hE28.size rfl (fun _ => rfl) (fun u v6 w9 ho6 hg6 hn6 => ?_)
          refine RL.y rfl (y_asg (by conv => lhs; whnf)) ?_
          refine RL.nil ?_
          refine Fin.blockNormal ?_
          refine Fin.next ?_
          refine CW.region ?_
          refine RL.y rfl (y_add rfl rfl (IntWalk.i64_in _ (by omega))) ?_
          refine RL.y rfl (y_mov (v := .int _ _) rfl) ?_
          refine RL.nil ?_
          refine Fin.le ?_
          exact ⟨rs[k.toNat].length - (i + 1), by omega, i + 1, v6, rfl, hlt, ⟨rfl, rfl, rfl, rfl, rfl, rfl, trivial⟩, by rw [filter_take hlt, if_pos hun]; exact ho6, hE28.grown hg6 (fun b hb => (ho5.lt b hb).1)⟩
        · with_reducible first | (replace hu := deNF hu) | (replace hu := of_decide_eq_true hu) | (replace hu := of_decide_eq_false hu) | (replace hu := deNT hu) | (replace hu := deNN hu) | (replace hu := bnT hu) | (replace hu := bnF hu) | skip
          have hun : ¬ (!decide (shP ps rs[k.toNat] (rs[k.toNat])[i])) = true := by rw [decide_eq_true (show shP ps rs[k.toNat] (rs[k.toNat])[i] from hu)]; simp
          refine CW.skip ?_
          refine Fin.blockNormal ?_
          refine Fin.next ?_
          refine CW.region ?_
          refine RL.y rfl (y_add rfl rfl (IntWalk.i64_in _ (by omega))) ?_
          refine RL.y rfl (y_mov (v := .int _ _) rfl) ?_
          refine RL.nil ?_
          refine Fin.le ?_
          exact ⟨rs[k.toNat].length - (i + 1), by omega, i + 1, vo, rfl, hlt, ⟨rfl, rfl, rfl, rfl, rfl, rfl, trivial⟩, by rw [filter_take hlt, if_neg hun]; exact ho5.ext hE58, hE28⟩
      · with_reducible first | (replace hc1 := deNF hc1) | (replace hc1 := of_decide_eq_true hc1) | (replace hc1 := of_decide_eq_false hc1) | (replace hc1 := deNT hc1) | (replace hc1 := deNN hc1) | (replace hc1 := bnT hc1) | (replace hc1 := bnF hc1) | skip
        obtain rfl : i = rs[k.toNat].length := by omega
        rw [List.take_length] at ho5
        refine CW.exit ?_
        refine Fin.thenExit ?_
        refine Fin.thenExit ?_
        refine Fin.blockHit ?_
        refine Fin.next ?_
        refine CW.seq ?_
        refine CW.region ?_
        refine RL.y rfl (y_mov (by conv => lhs; whnf)) ?_
        refine RL.y rfl (y_asg (by conv => lhs; whnf)) ?_
        refine RL.y rfl (y_asg rfl) ?_
        refine RL.nil ?_
        refine Fin.next ?_
        refine CW.ret ?_
        refine Fin.ret2 rfl (by conv => lhs; whnf) (by conv => lhs; whnf) ?_
        exact ⟨_, rfl, _, by rw [h1], by unfold shV; rw [if_pos h1, hrow]; exact ho5.mono hE12.size, hE12.trans hE5⟩
end Go.Proofs.Ytkkeipogkjlneaa
