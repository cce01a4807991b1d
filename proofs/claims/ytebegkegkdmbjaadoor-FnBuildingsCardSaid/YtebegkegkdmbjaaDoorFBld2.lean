/-
  IsBuilding; a node under another one.
-/
import Derived.Test.YtebegkegkdmbjaaDoorFBld1
namespace Go.Proofs.YtebegkegkdmbjaaDoor
open B Go.RowKit

theorem specIsBuilding_any {w : World} {b : Value} {ps : List Int} {ds : List Bool} (hb : RdB w b ps ds) :
    Does Tryd.prog 22 #[b] w (fun r w' => r = .bool (decide (bld ps ds)) ∧ Ext w w') := by
  obtain ⟨vp, vd, rfl, hp, hd⟩ := hb
  have hpl := SI.le hp
  have hdl := SV.le hd
  rw [bools_len] at hdl
  refine enter Tryd.func22 rfl 68 Tryd.ntmps22 rfl (by kernel_rfl) ?_
  refine CW.seq ?_
  refine CW.region ?_
  refine RL.box (cs := [vp, vd]) rfl rfl rfl (fun w1 hV hE1 => ?_)
  refine RL.y rfl (y_asg rfl) ?_
  refine RL.nil ?_
  refine Fin.next ?_
  refine CW.seq ?_
  refine CW.region ?_
  refine RL.y rfl (y_fa fa25_0 rfl rfl) ?_
  refine RL.y rfl (y_loadv sc22 (eqw (hV)) rfl rfl) ?_
  refine RL.y rfl (y_len sT22 hp (ints_len _) rfl) ?_
  refine RL.y rfl (y_asg (v := .int _ _) rfl) ?_
  refine RL.nil ?_
  refine Fin.next ?_
  refine CW.seq ?_
  refine CW.seq ?_
  refine CW.region ?_
  refine RL.y rfl (y_mov (v := .int _ _) rfl) ?_
  refine RL.call rfl (l01In_any) ?_
  rintro r w2 ⟨rfl, rfl⟩
  refine RL.y rfl (y_not rfl) ?_
  refine RL.y rfl (y_mov (v := .bool _) rfl) ?_
  refine RL.split (t := 12) rfl rfl (fun h1 => ?_) (fun h1 => ?_)
  · with_reducible first | (replace h1 := deNF h1) | (replace h1 := of_decide_eq_true h1) | (replace h1 := of_decide_eq_false h1) | (replace h1 := deNT h1) | (replace h1 := deNN h1) | (replace h1 := bnT h1) | (replace h1 := bnF h1) | skip
    refine RL.pass (t := 12) rfl rfl rfl rfl ?_
    refine RL.pass (t := 12) rfl rfl rfl rfl ?_
    refine RL.pass (t := 12) rfl rfl rfl rfl ?_
    refine RL.pass (t := 12) rfl rfl rfl rfl ?_
    refine RL.pass (t := 12) rfl rfl rfl rfl ?_
    refine RL.pass (t := 12) rfl rfl rfl rfl ?_
    refine RL.pass (t := 12) rfl rfl rfl rfl ?_
    refine RL.y rfl (y_pickT (v := .bool _) rfl rfl) ?_
    refine RL.y rfl (y_mov (v := .bool _) rfl) ?_
    refine RL.pass (t := 21) rfl rfl rfl rfl ?_
    refine RL.pass (t := 21) rfl rfl rfl rfl ?_
    refine RL.pass (t := 21) rfl rfl rfl rfl ?_
    refine RL.pass (t := 21) rfl rfl rfl rfl ?_
    refine RL.pass (t := 21) rfl rfl rfl rfl ?_
    refine RL.y rfl (y_pickT (v := .bool _) rfl rfl) ?_
    refine RL.y rfl (y_mov (v := .bool _) rfl) ?_
    refine RL.pass (t := 28) rfl rfl rfl rfl ?_
    refine RL.pass (t := 28) rfl rfl rfl rfl ?_
    refine RL.pass (t := 28) rfl rfl rfl rfl ?_
    refine RL.pass (t := 28) rfl rfl rfl rfl ?_
    refine RL.y rfl (y_pickT (v := .bool _) rfl rfl) ?_
    refine RL.nil ?_
    refine Fin.next ?_
    refine CW.condT rfl rfl ?_
    refine CW.seq ?_
    refine CW.region ?_
    refine RL.y rfl (y_asg rfl) ?_
    refine RL.nil ?_
    refine Fin.next ?_
    refine CW.ret ?_
    refine Fin.thenRet ?_
    refine Fin.ret1 rfl (by conv => lhs; whnf) ?_
    exact ⟨_, rfl, bF (fun h => h1 (by have := h.1.1; omega)), hE1⟩
  · with_reducible first | (replace h1 := deNF h1) | (replace h1 := of_decide_eq_true h1) | (replace h1 := of_decide_eq_false h1) | (replace h1 := deNT h1) | (replace h1 := deNN h1) | (replace h1 := bnT h1) | (replace h1 := bnF h1) | skip
    refine RL.take (t := 12) rfl rfl rfl ?_
    refine RL.y rfl (y_fa fa25_1 rfl rfl) ?_
    refine RL.take (t := 12) rfl rfl rfl ?_
    refine RL.y rfl (y_loadv sc23 (eqw (hV)) rfl rfl) ?_
    refine RL.take (t := 12) rfl rfl rfl ?_
    refine RL.y rfl (y_len sT23 hd (bools_len _) rfl) ?_
    refine RL.take (t := 12) rfl rfl rfl ?_
    refine RL.y rfl (y_fa fa25_0 rfl rfl) ?_
    refine RL.take (t := 12) rfl rfl rfl ?_
    refine RL.y rfl (y_loadv sc22 (eqw (hV)) rfl rfl) ?_
    refine RL.take (t := 12) rfl rfl rfl ?_
    refine RL.y rfl (y_len sT22 hp (ints_len _) rfl) ?_
    refine RL.take (t := 12) rfl rfl rfl ?_
    refine RL.y rfl (y_ne rfl rfl) ?_
    refine RL.y rfl (y_pickF (v := .bool _) rfl rfl) ?_
    refine RL.y rfl (y_mov (v := .bool _) rfl) ?_
    refine RL.split (t := 21) rfl rfl (fun h2 => ?_) (fun h2 => ?_)
    · with_reducible first | (replace h2 := deNF h2) | (replace h2 := of_decide_eq_true h2) | (replace h2 := of_decide_eq_false h2) | (replace h2 := deNT h2) | (replace h2 := deNN h2) | (replace h2 := bnT h2) | (replace h2 := bnF h2) | skip
      refine RL.pass (t := 21) rfl rfl rfl rfl ?_
      refine RL.pass (t := 21) rfl rfl rfl rfl ?_
      refine RL.pass (t := 21) rfl rfl rfl rfl ?_
      refine RL.pass (t := 21) rfl rfl rfl rfl ?_
      refine RL.pass (t := 21) rfl rfl rfl rfl ?_
      refine RL.y rfl (y_pickT (v := .bool _) rfl rfl) ?_
      refine RL.y rfl (y_mov (v := .bool _) rfl) ?_
      refine RL.pass (t := 28) rfl rfl rfl rfl ?_
      refine RL.pass (t := 28) rfl rfl rfl rfl ?_
      refine RL.pass (t := 28) rfl rfl rfl rfl ?_
      refine RL.pass (t := 28) rfl rfl rfl rfl ?_
      refine RL.y rfl (y_pickT (v := .bool _) rfl rfl) ?_
      refine RL.nil ?_
      refine Fin.next ?_
      refine CW.condT rfl rfl ?_
      refine CW.seq ?_
      refine CW.region ?_
      refine RL.y rfl (y_asg rfl) ?_
      refine RL.nil ?_
      refine Fin.next ?_
      refine CW.ret ?_
      refine Fin.thenRet ?_
      refine Fin.ret1 rfl (by conv => lhs; whnf) ?_
      exact ⟨_, rfl, bF (fun h => h2 (by have := h.1.2.1; omega)), hE1⟩
    · with_reducible first | (replace h2 := deNF h2) | (replace h2 := of_decide_eq_true h2) | (replace h2 := of_decide_eq_false h2) | (replace h2 := deNT h2) | (replace h2 := deNN h2) | (replace h2 := bnT h2) | (replace h2 := bnF h2) | skip
      have h0 : 0 < ps.length := by omega
      have h0d : 0 < ds.length := by omega
      have hp0 : par ps 0 = ps[0] := getD_lt h0
      have hd0 : isD ds 0 = ds[0] := getD_lt h0d
      refine RL.take (t := 21) rfl rfl rfl ?_
      refine RL.y rfl (y_fa fa25_0 rfl rfl) ?_
      refine RL.take (t := 21) rfl rfl rfl ?_
      refine RL.y rfl (y_loadv sc22 (eqw (hV)) rfl rfl) ?_
      refine RL.take (t := 21) rfl rfl rfl ?_
      refine RL.y rfl (y_ixa sT22 (eqw (hp.ext hE1)) (k := 0) (ints_lt h0) rfl rfl) ?_
      refine RL.take (t := 21) rfl rfl rfl ?_
      refine RL.y rfl (y_load sc2 (eqw (hp.ext hE1)) (ints_at h0) rfl) ?_
      refine RL.take (t := 21) rfl rfl rfl ?_
      refine RL.y rfl (y_ne rfl rfl) ?_
      refine RL.y rfl (y_pickF (v := .bool _) rfl rfl) ?_
      refine RL.y rfl (y_mov (v := .bool _) rfl) ?_
      refine RL.split (t := 28) rfl rfl (fun h3 => ?_) (fun h3 => ?_)
      · with_reducible first | (replace h3 := deNF h3) | (replace h3 := of_decide_eq_true h3) | (replace h3 := of_decide_eq_false h3) | (replace h3 := deNT h3) | (replace h3 := deNN h3) | (replace h3 := bnT h3) | (replace h3 := bnF h3) | skip
        refine RL.pass (t := 28) rfl rfl rfl rfl ?_
        refine RL.pass (t := 28) rfl rfl rfl rfl ?_
        refine RL.pass (t := 28) rfl rfl rfl rfl ?_
        refine RL.pass (t := 28) rfl rfl rfl rfl ?_
        refine RL.y rfl (y_pickT (v := .bool _) rfl rfl) ?_
        refine RL.nil ?_
        refine Fin.next ?_
        refine CW.condT rfl rfl ?_
        refine CW.seq ?_
        refine CW.region ?_
        refine RL.y rfl (y_asg rfl) ?_
        refine RL.nil ?_
        refine Fin.next ?_
        refine CW.ret ?_
        refine Fin.thenRet ?_
        refine Fin.ret1 rfl (by conv => lhs; whnf) ?_
        exact ⟨_, rfl, bF (fun h => h3 (by rw [← hp0]; exact h.1.2.2.1)), hE1⟩
      · with_reducible first | (replace h3 := deNF h3) | (replace h3 := of_decide_eq_true h3) | (replace h3 := of_decide_eq_false h3) | (replace h3 := deNT h3) | (replace h3 := deNN h3) | (replace h3 := bnT h3) | (replace h3 := bnF h3) | skip
        refine RL.take (t := 28) rfl rfl rfl ?_
        refine RL.y rfl (y_fa fa25_1 rfl rfl) ?_
        refine RL.take (t := 28) rfl rfl rfl ?_
        refine RL.y rfl (y_loadv sc23 (eqw (hV)) rfl rfl) ?_
        refine RL.take (t := 28) rfl rfl rfl ?_
        refine RL.y rfl (y_ixa sT23 (eqw (hd.ext hE1)) (k := 0) (bools_lt h0d) rfl rfl) ?_
        refine RL.take (t := 28) rfl rfl rfl ?_
        refine RL.y rfl (y_load sc4 (eqw (hd.ext hE1)) (bools_at h0d) rfl) ?_
        refine RL.y rfl (y_pickF (v := .bool _) rfl rfl) ?_
        refine RL.nil ?_
        refine Fin.next ?_
        refine CW.cond rfl rfl (fun h4 => ?_) (fun h4 => ?_)
        · with_reducible first | (replace h4 := deNF h4) | (replace h4 := of_decide_eq_true h4) | (replace h4 := of_decide_eq_false h4) | (replace h4 := deNT h4) | (replace h4 := deNN h4) | (replace h4 := bnT h4) | (replace h4 := bnF h4) | skip
          refine CW.seq ?_
          refine CW.region ?_
          refine RL.y rfl (y_asg rfl) ?_
          refine RL.nil ?_
          refine Fin.next ?_
          refine CW.ret ?_
          refine Fin.thenRet ?_
          refine Fin.ret1 rfl (by conv => lhs; whnf) ?_
          exact ⟨_, rfl, bF (fun h => by have := h.1.2.2.2; rw [hd0, h4] at this; cases this), hE1⟩
        · with_reducible first | (replace h4 := deNF h4) | (replace h4 := of_decide_eq_true h4) | (replace h4 := of_decide_eq_false h4) | (replace h4 := deNT h4) | (replace h4 := deNN h4) | (replace h4 := bnT h4) | (replace h4 := bnF h4) | skip
          refine CW.skip ?_
          refine Fin.next ?_
          refine CW.seq ?_
          refine CW.region ?_
          refine RL.y rfl (y_asg rfl) ?_
          refine RL.nil ?_
          refine Fin.next ?_
          refine CW.seq ?_
          refine CW.seq ?_
          refine CW.region ?_
          refine RL.y rfl (y_asg rfl) ?_
          refine RL.nil ?_
          refine Fin.next ?_
          refine CW.block ?_
          refine CW.loop (fun m E w' => ∃ i : Nat, m = ps.length - i ∧ i ≤ ps.length ∧ agrees E [(1, .pointer (some ⟨w.heap.size, 0, none⟩)), (3, .int .i64 ps.length), (4, .bool (decide (anyD ds i))), (5, .int .i64 (i : Int))] ∧ 1 ≤ i ∧ bldTo ps ds i ∧ Ext w1 w') _ (⟨1, rfl, by omega, ⟨rfl, rfl, congrArg Value.bool (decide_eq_false (anyD_one ds)).symm, rfl, trivial⟩, Nat.le_refl _, (fun i hi h => absurd hi (by omega)), Ext.refl w1⟩) ?_
          · rintro m E w2 ⟨i, rfl, hi, hag, hi1, hto, hE2⟩
            refine CW.re _ hag rfl ?_
            have hE12 := hE1.trans hE2
            refine CW.seq ?_
            refine CW.seq ?_
            refine CW.region ?_
            refine RL.y rfl (y_mov (v := .int _ _) rfl) ?_
            refine RL.y rfl (y_mov (v := .int _ _) rfl) ?_
            refine RL.y rfl (y_lt rfl rfl) ?_
            refine RL.nil ?_
            refine Fin.next ?_
            refine CW.cond rfl rfl (fun hci => ?_) (fun hci => ?_)
            · with_reducible first | (replace hci := deNF hci) | (replace hci := of_decide_eq_true hci) | (replace hci := of_decide_eq_false hci) | (replace hci := deNT hci) | (replace hci := deNN hci) | (replace hci := bnT hci) | (replace hci := bnF hci) | skip
              have hlt : i < ps.length := by omega
              have hltd : i < ds.length := by omega
              have hpi : par ps i = ps[i] := getD_lt hlt
              refine CW.skip ?_
              refine Fin.next ?_
              refine CW.seq ?_
              refine CW.block ?_
              refine CW.seq ?_
              refine CW.seq ?_
              refine CW.quietE mixed (by kernel_rfl) ?_
              refine QL.y rfl (y_fa fa25_0 rfl rfl) ?_
              refine QL.y rfl (y_loadv sc22 (fun _ hC => (hV.ext hE2).ext hC) rfl rfl) ?_
              refine QL.y rfl (y_mov (v := .int _ _) rfl) ?_
              refine QL.y rfl (y_ixa sT22 (fun _ hC => (hp.ext hE12).ext hC) (k := i) (ints_lt hlt) rfl rfl) ?_
              refine QL.y rfl (y_load sc2 (fun _ hC => (hp.ext hE12).ext hC) (ints_at hlt) rfl) ?_
              refine QL.y rfl (y_mov (v := .int _ _) rfl) ?_
              refine QL.y rfl (y_sub rfl rfl (IntWalk.i64_in _ (by omega))) ?_
              refine QL.call rfl (fun _ hC => qs hC l01In_any) ?_
              refine QL.y rfl (y_not rfl) ?_
              refine QL.y rfl (y_mov (v := .bool _) rfl) ?_
              refine QL.split (t := 48) rfl rfl (fun h5 => ?_) (fun h5 => ?_)
              · with_reducible first | (replace h5 := deNF h5) | (replace h5 := of_decide_eq_true h5) | (replace h5 := of_decide_eq_false h5) | (replace h5 := deNT h5) | (replace h5 := deNN h5) | (replace h5 := bnT h5) | (replace h5 := bnF h5) | skip
                refine QL.pass (t := 48) rfl rfl rfl rfl ?_
                refine QL.pass (t := 48) rfl rfl rfl rfl ?_
                refine QL.pass (t := 48) rfl rfl rfl rfl ?_
                refine QL.pass (t := 48) rfl rfl rfl rfl ?_
                refine QL.pass (t := 48) rfl rfl rfl rfl ?_
                refine QL.pass (t := 48) rfl rfl rfl rfl ?_
                refine QL.pass (t := 48) rfl rfl rfl rfl ?_
                refine QL.pass (t := 48) rfl rfl rfl rfl ?_
                refine QL.pass (t := 48) rfl rfl rfl rfl ?_
                refine QL.y rfl (y_pickT (v := .bool _) rfl rfl) ?_
                refine QL.nil (fun w3 hE3 => ?_)
                refine Fin.next ?_
                refine CW.condT rfl rfl ?_
                refine CW.seq ?_
                refine CW.region ?_
                refine RL.y rfl (y_asg rfl) ?_
                refine RL.nil ?_
                refine Fin.next ?_
                refine CW.ret ?_
                refine Fin.thenRet ?_
                refine Fin.blockRet ?_
                refine Fin.thenRet ?_
                refine Fin.thenRet ?_
                refine Fin.blockRet ?_
                refine Fin.thenRet ?_
                refine Fin.ret1 rfl (by conv => lhs; whnf) ?_
                exact ⟨_, rfl, bF (fun h => h5 (by have := (h.2.1 i hlt hi1).1; omega)), hE12.trans hE3⟩
              · with_reducible first | (replace h5 := deNF h5) | (replace h5 := of_decide_eq_true h5) | (replace h5 := of_decide_eq_false h5) | (replace h5 := deNT h5) | (replace h5 := deNN h5) | (replace h5 := bnT h5) | (replace h5 := bnF h5) | skip
                have hpd : (ps[i]).toNat < ds.length := by omega
                refine QL.take (t := 48) rfl rfl rfl ?_
                refine QL.y rfl (y_fa fa25_1 rfl rfl) ?_
                refine QL.take (t := 48) rfl rfl rfl ?_
                refine QL.y rfl (y_loadv sc23 (fun _ hC => (hV.ext hE2).ext hC) rfl rfl) ?_
                refine QL.take (t := 48) rfl rfl rfl ?_
                refine QL.y rfl (y_fa fa25_0 rfl rfl) ?_
                refine QL.take (t := 48) rfl rfl rfl ?_
                refine QL.y rfl (y_loadv sc22 (fun _ hC => (hV.ext hE2).ext hC) rfl rfl) ?_
                refine QL.take (t := 48) rfl rfl rfl ?_
                refine QL.y rfl (y_mov (v := .int _ _) rfl) ?_
                refine QL.take (t := 48) rfl rfl rfl ?_
                refine QL.y rfl (y_ixa sT22 (fun _ hC => (hp.ext hE12).ext hC) (k := i) (ints_lt hlt) rfl rfl) ?_
                refine QL.take (t := 48) rfl rfl rfl ?_
                refine QL.y rfl (y_load sc2 (fun _ hC => (hp.ext hE12).ext hC) (ints_at hlt) rfl) ?_
                refine QL.take (t := 48) rfl rfl rfl ?_
                refine QL.y rfl (y_ixi sT23 (fun _ hC => (hd.ext hE12).ext hC) h5.1 (by rw [bools_len]; omega) rfl rfl) ?_
                refine QL.take (t := 48) rfl rfl rfl ?_
                refine QL.y rfl (y_load sc4 (fun _ hC => (hd.ext hE12).ext hC) (bools_at hpd) rfl) ?_
                refine QL.y rfl (y_pickF (v := .bool _) rfl rfl) ?_
                refine QL.nil (fun w3 hE3 => ?_)
                refine Fin.next ?_
                refine CW.cond rfl rfl (fun h6 => ?_) (fun h6 => ?_)
                · with_reducible first | (replace h6 := deNF h6) | (replace h6 := of_decide_eq_true h6) | (replace h6 := of_decide_eq_false h6) | (replace h6 := deNT h6) | (replace h6 := deNN h6) | (replace h6 := bnT h6) | (replace h6 := bnF h6) | skip
                  refine CW.seq ?_
                  refine CW.region ?_
                  refine RL.y rfl (y_asg rfl) ?_
                  refine RL.nil ?_
                  refine Fin.next ?_
                  refine CW.ret ?_
                  refine Fin.thenRet ?_
                  refine Fin.blockRet ?_
                  refine Fin.thenRet ?_
                  refine Fin.thenRet ?_
                  refine Fin.blockRet ?_
                  refine Fin.thenRet ?_
                  refine Fin.ret1 rfl (by conv => lhs; whnf) ?_
                  exact ⟨_, rfl, bF (fun h => by have := (h.2.1 i hlt hi1).2; rw [hpi] at this; unfold isD at this; rw [getD_lt hpd, h6] at this; cases this), hE12.trans hE3⟩
                · with_reducible first | (replace h6 := deNF h6) | (replace h6 := of_decide_eq_true h6) | (replace h6 := of_decide_eq_false h6) | (replace h6 := deNT h6) | (replace h6 := deNN h6) | (replace h6 := bnT h6) | (replace h6 := bnF h6) | skip
                  have hE23 := hE2.trans hE3
                  have hE13 := hE1.trans hE23
                  have hto' := bldTo_succ hto (fun _ => ⟨by omega, by rw [hpi]; unfold isD; rw [getD_lt hpd]; exact h6⟩)
                  have hds : isD ds i = ds[i] := getD_lt hltd
                  refine CW.skip ?_
                  refine Fin.next ?_
                  refine CW.region ?_
                  refine RL.y rfl (y_mov (v := .bool _) rfl) ?_
                  refine RL.y rfl (y_mov (v := .bool _) rfl) ?_
                  refine RL.split (t := 60) rfl rfl (fun h7 => ?_) (fun h7 => ?_)
                  · with_reducible first | (replace h7 := deNF h7) | (replace h7 := of_decide_eq_true h7) | (replace h7 := of_decide_eq_false h7) | (replace h7 := deNT h7) | (replace h7 := deNN h7) | (replace h7 := bnT h7) | (replace h7 := bnF h7) | skip
                    refine RL.pass (t := 60) rfl rfl rfl rfl ?_
                    refine RL.pass (t := 60) rfl rfl rfl rfl ?_
                    refine RL.pass (t := 60) rfl rfl rfl rfl ?_
                    refine RL.pass (t := 60) rfl rfl rfl rfl ?_
                    refine RL.pass (t := 60) rfl rfl rfl rfl ?_
                    refine RL.y rfl (y_pickT (v := .bool _) rfl rfl) ?_
                    refine RL.y rfl (y_asg (v := .bool _) rfl) ?_
                    refine RL.nil ?_
                    refine Fin.blockNormal ?_
                    refine Fin.next ?_
                    refine CW.region ?_
                    refine RL.y rfl (y_mov (v := .int _ _) rfl) ?_
                    refine RL.y rfl (y_add rfl rfl (IntWalk.i64_in _ (by omega))) ?_
                    refine RL.y rfl (y_asg (v := .int _ _) rfl) ?_
                    refine RL.nil ?_
                    refine Fin.le ?_
                    exact ⟨ps.length - (i + 1), by omega, i + 1, rfl, hlt, ⟨rfl, rfl, by rw [anyD_succ hi1, decide_eq_true h7]; rfl, rfl, trivial⟩, by omega, hto', hE23⟩
                  · with_reducible first | (replace h7 := deNF h7) | (replace h7 := of_decide_eq_true h7) | (replace h7 := of_decide_eq_false h7) | (replace h7 := deNT h7) | (replace h7 := deNN h7) | (replace h7 := bnT h7) | (replace h7 := bnF h7) | skip
                    refine RL.take (t := 60) rfl rfl rfl ?_
                    refine RL.y rfl (y_fa fa25_1 rfl rfl) ?_
                    refine RL.take (t := 60) rfl rfl rfl ?_
                    refine RL.y rfl (y_loadv sc23 (eqw (hV.ext hE23)) rfl rfl) ?_
                    refine RL.take (t := 60) rfl rfl rfl ?_
                    refine RL.y rfl (y_mov (v := .int _ _) rfl) ?_
                    refine RL.take (t := 60) rfl rfl rfl ?_
                    refine RL.y rfl (y_ixa sT23 (eqw (hd.ext hE13)) (k := i) (bools_lt hltd) rfl rfl) ?_
                    refine RL.take (t := 60) rfl rfl rfl ?_
                    refine RL.y rfl (y_load sc4 (eqw (hd.ext hE13)) (bools_at hltd) rfl) ?_
                    refine RL.y rfl (y_pickF (v := .bool _) rfl rfl) ?_
                    refine RL.y rfl (y_asg (v := .bool _) rfl) ?_
                    refine RL.nil ?_
                    refine Fin.blockNormal ?_
                    refine Fin.next ?_
                    refine CW.region ?_
                    refine RL.y rfl (y_mov (v := .int _ _) rfl) ?_
                    refine RL.y rfl (y_add rfl rfl (IntWalk.i64_in _ (by omega))) ?_
                    refine RL.y rfl (y_asg (v := .int _ _) rfl) ?_
                    refine RL.nil ?_
                    refine Fin.le ?_
                    exact ⟨ps.length - (i + 1), by omega, i + 1, rfl, hlt, ⟨rfl, rfl, by rw [anyD_succ hi1, decide_eq_false h7, hds, Bool.false_or]; rfl, rfl, trivial⟩, by omega, hto', hE23⟩
            · with_reducible first | (replace hci := deNF hci) | (replace hci := of_decide_eq_true hci) | (replace hci := of_decide_eq_false hci) | (replace hci := deNT hci) | (replace hci := deNN hci) | (replace hci := bnT hci) | (replace hci := bnF hci) | skip
              obtain rfl : i = ps.length := by omega
              refine CW.exit ?_
              refine Fin.thenExit ?_
              refine Fin.thenExit ?_
              refine Fin.blockHit ?_
              refine Fin.next ?_
              refine CW.seq ?_
              refine CW.region ?_
              refine RL.y rfl (y_mov (v := .bool _) rfl) ?_
              refine RL.y rfl (y_asg (v := .bool _) rfl) ?_
              refine RL.nil ?_
              refine Fin.next ?_
              refine CW.ret ?_
              refine Fin.ret1 rfl (by conv => lhs; whnf) ?_
              exact ⟨_, rfl, bD ⟨fun h => ⟨⟨by omega, by omega, by omega, by rw [hd0]; exact h4⟩, hto, h⟩, fun h => h.2.2⟩, hE12⟩

theorem implIsBuilding_any {w : World} {b : Value} {ps : List Int} {ds : List Bool} (hb : RdB w b ps ds) :
    Does Tryd.prog 17 #[b] w (fun r w' => r = .bool (decide (bld ps ds)) ∧ Ext w w') := by
  obtain ⟨vp, vd, rfl, hp, hd⟩ := hb
  have hpl := SI.le hp
  have hdl := SV.le hd
  rw [bools_len] at hdl
  refine enter Tryd.func17 rfl 61 Tryd.ntmps17 rfl (by kernel_rfl) ?_
  refine CW.seq ?_
  refine CW.region ?_
  refine RL.box (cs := [vp, vd]) rfl rfl rfl (fun w1 hV hE1 => ?_)
  refine RL.y rfl (y_asg rfl) ?_
  refine RL.nil ?_
  refine Fin.next ?_
  refine CW.seq ?_
  refine CW.region ?_
  refine RL.y rfl (y_fa fa25_0 rfl rfl) ?_
  refine RL.y rfl (y_loadv sc22 (eqw (hV)) rfl rfl) ?_
  refine RL.y rfl (y_len sT22 hp (ints_len _) rfl) ?_
  refine RL.y rfl (y_asg (v := .int _ _) rfl) ?_
  refine RL.y rfl (y_asg rfl) ?_
  refine RL.nil ?_
  refine Fin.next ?_
  refine CW.seq ?_
  refine CW.seq ?_
  refine CW.region ?_
  refine RL.y rfl (y_mov (v := .int _ _) rfl) ?_
  refine RL.y rfl (y_lt rfl rfl) ?_
  refine RL.y rfl (y_mov (v := .bool _) rfl) ?_
  refine RL.split (t := 12) rfl rfl (fun h1 => ?_) (fun h1 => ?_)
  · with_reducible first | (replace h1 := deNF h1) | (replace h1 := of_decide_eq_true h1) | (replace h1 := of_decide_eq_false h1) | (replace h1 := deNT h1) | (replace h1 := deNN h1) | (replace h1 := bnT h1) | (replace h1 := bnF h1) | skip
    refine RL.pass (t := 12) rfl rfl rfl rfl ?_
    refine RL.pass (t := 12) rfl rfl rfl rfl ?_
    refine RL.y rfl (y_pickT (v := .bool _) rfl rfl) ?_
    refine RL.y rfl (y_mov (v := .bool _) rfl) ?_
    refine RL.pass (t := 16) rfl rfl rfl rfl ?_
    refine RL.pass (t := 16) rfl rfl rfl rfl ?_
    refine RL.pass (t := 16) rfl rfl rfl rfl ?_
    refine RL.pass (t := 16) rfl rfl rfl rfl ?_
    refine RL.pass (t := 16) rfl rfl rfl rfl ?_
    refine RL.y rfl (y_pickT (v := .bool _) rfl rfl) ?_
    refine RL.y rfl (y_mov (v := .bool _) rfl) ?_
    refine RL.pass (t := 23) rfl rfl rfl rfl ?_
    refine RL.pass (t := 23) rfl rfl rfl rfl ?_
    refine RL.pass (t := 23) rfl rfl rfl rfl ?_
    refine RL.pass (t := 23) rfl rfl rfl rfl ?_
    refine RL.pass (t := 23) rfl rfl rfl rfl ?_
    refine RL.y rfl (y_pickT (v := .bool _) rfl rfl) ?_
    refine RL.nil ?_
    refine Fin.next ?_
    refine CW.condT rfl rfl ?_
    refine CW.seq ?_
    refine CW.region ?_
    refine RL.y rfl (y_asg rfl) ?_
    refine RL.nil ?_
    refine Fin.next ?_
    refine CW.ret ?_
    refine Fin.thenRet ?_
    refine Fin.ret1 rfl (by conv => lhs; whnf) ?_
    exact ⟨_, rfl, bF (fun h => by have := h.1.1; omega), hE1⟩
  · with_reducible first | (replace h1 := deNF h1) | (replace h1 := of_decide_eq_true h1) | (replace h1 := of_decide_eq_false h1) | (replace h1 := deNT h1) | (replace h1 := deNN h1) | (replace h1 := bnT h1) | (replace h1 := bnF h1) | skip
    refine RL.take (t := 12) rfl rfl rfl ?_
    refine RL.y rfl (y_mov (v := .int _ _) rfl) ?_
    refine RL.take (t := 12) rfl rfl rfl ?_
    refine RL.y rfl (y_gt rfl rfl) ?_
    refine RL.y rfl (y_pickF (v := .bool _) rfl rfl) ?_
    refine RL.y rfl (y_mov (v := .bool _) rfl) ?_
    refine RL.split (t := 16) rfl rfl (fun h1b => ?_) (fun h1b => ?_)
    · with_reducible first | (replace h1b := deNF h1b) | (replace h1b := of_decide_eq_true h1b) | (replace h1b := of_decide_eq_false h1b) | (replace h1b := deNT h1b) | (replace h1b := deNN h1b) | (replace h1b := bnT h1b) | (replace h1b := bnF h1b) | skip
      refine RL.pass (t := 16) rfl rfl rfl rfl ?_
      refine RL.pass (t := 16) rfl rfl rfl rfl ?_
      refine RL.pass (t := 16) rfl rfl rfl rfl ?_
      refine RL.pass (t := 16) rfl rfl rfl rfl ?_
      refine RL.pass (t := 16) rfl rfl rfl rfl ?_
      refine RL.y rfl (y_pickT (v := .bool _) rfl rfl) ?_
      refine RL.y rfl (y_mov (v := .bool _) rfl) ?_
      refine RL.pass (t := 23) rfl rfl rfl rfl ?_
      refine RL.pass (t := 23) rfl rfl rfl rfl ?_
      refine RL.pass (t := 23) rfl rfl rfl rfl ?_
      refine RL.pass (t := 23) rfl rfl rfl rfl ?_
      refine RL.pass (t := 23) rfl rfl rfl rfl ?_
      refine RL.y rfl (y_pickT (v := .bool _) rfl rfl) ?_
      refine RL.nil ?_
      refine Fin.next ?_
      refine CW.condT rfl rfl ?_
      refine CW.seq ?_
      refine CW.region ?_
      refine RL.y rfl (y_asg rfl) ?_
      refine RL.nil ?_
      refine Fin.next ?_
      refine CW.ret ?_
      refine Fin.thenRet ?_
      refine Fin.ret1 rfl (by conv => lhs; whnf) ?_
      exact ⟨_, rfl, bF (fun h => by have := h.1.1; omega), hE1⟩
    · with_reducible first | (replace h1b := deNF h1b) | (replace h1b := of_decide_eq_true h1b) | (replace h1b := of_decide_eq_false h1b) | (replace h1b := deNT h1b) | (replace h1b := deNN h1b) | (replace h1b := bnT h1b) | (replace h1b := bnF h1b) | skip
      refine RL.take (t := 16) rfl rfl rfl ?_
      refine RL.y rfl (y_fa fa25_1 rfl rfl) ?_
      refine RL.take (t := 16) rfl rfl rfl ?_
      refine RL.y rfl (y_loadv sc23 (eqw (hV)) rfl rfl) ?_
      refine RL.take (t := 16) rfl rfl rfl ?_
      refine RL.y rfl (y_len sT23 hd (bools_len _) rfl) ?_
      refine RL.take (t := 16) rfl rfl rfl ?_
      refine RL.y rfl (y_mov (v := .int _ _) rfl) ?_
      refine RL.take (t := 16) rfl rfl rfl ?_
      refine RL.y rfl (y_ne rfl rfl) ?_
      refine RL.y rfl (y_pickF (v := .bool _) rfl rfl) ?_
      refine RL.y rfl (y_mov (v := .bool _) rfl) ?_
      refine RL.split (t := 23) rfl rfl (fun h2 => ?_) (fun h2 => ?_)
      · with_reducible first | (replace h2 := deNF h2) | (replace h2 := of_decide_eq_true h2) | (replace h2 := of_decide_eq_false h2) | (replace h2 := deNT h2) | (replace h2 := deNN h2) | (replace h2 := bnT h2) | (replace h2 := bnF h2) | skip
        refine RL.pass (t := 23) rfl rfl rfl rfl ?_
        refine RL.pass (t := 23) rfl rfl rfl rfl ?_
        refine RL.pass (t := 23) rfl rfl rfl rfl ?_
        refine RL.pass (t := 23) rfl rfl rfl rfl ?_
        refine RL.pass (t := 23) rfl rfl rfl rfl ?_
        refine RL.y rfl (y_pickT (v := .bool _) rfl rfl) ?_
        refine RL.nil ?_
        refine Fin.next ?_
        refine CW.condT rfl rfl ?_
        refine CW.seq ?_
        refine CW.region ?_
        refine RL.y rfl (y_asg rfl) ?_
        refine RL.nil ?_
        refine Fin.next ?_
        refine CW.ret ?_
        refine Fin.thenRet ?_
        refine Fin.ret1 rfl (by conv => lhs; whnf) ?_
        exact ⟨_, rfl, bF (fun h => h2 (by have := h.1.2.1; omega)), hE1⟩
      · with_reducible first | (replace h2 := deNF h2) | (replace h2 := of_decide_eq_true h2) | (replace h2 := of_decide_eq_false h2) | (replace h2 := deNT h2) | (replace h2 := deNN h2) | (replace h2 := bnT h2) | (replace h2 := bnF h2) | skip
        have h0 : 0 < ps.length := by omega
        have h0d : 0 < ds.length := by omega
        have hp0 : par ps 0 = ps[0] := getD_lt h0
        refine RL.take (t := 23) rfl rfl rfl ?_
        refine RL.y rfl (y_fa fa25_0 rfl rfl) ?_
        refine RL.take (t := 23) rfl rfl rfl ?_
        refine RL.y rfl (y_loadv sc22 (eqw (hV)) rfl rfl) ?_
        refine RL.take (t := 23) rfl rfl rfl ?_
        refine RL.y rfl (y_ixa sT22 (eqw (hp.ext hE1)) (k := 0) (ints_lt h0) rfl rfl) ?_
        refine RL.take (t := 23) rfl rfl rfl ?_
        refine RL.y rfl (y_load sc2 (eqw (hp.ext hE1)) (ints_at h0) rfl) ?_
        refine RL.take (t := 23) rfl rfl rfl ?_
        refine RL.y rfl (y_ne rfl rfl) ?_
        refine RL.y rfl (y_pickF (v := .bool _) rfl rfl) ?_
        refine RL.nil ?_
        refine Fin.next ?_
        refine CW.cond rfl rfl (fun h3 => ?_) (fun h3 => ?_)
        · with_reducible first | (replace h3 := deNF h3) | (replace h3 := of_decide_eq_true h3) | (replace h3 := of_decide_eq_false h3) | (replace h3 := deNT h3) | (replace h3 := deNN h3) | (replace h3 := bnT h3) | (replace h3 := bnF h3) | skip
          refine CW.seq ?_
          refine CW.region ?_
          refine RL.y rfl (y_asg rfl) ?_
          refine RL.nil ?_
          refine Fin.next ?_
          refine CW.ret ?_
          refine Fin.thenRet ?_
          refine Fin.ret1 rfl (by conv => lhs; whnf) ?_
          exact ⟨_, rfl, bF (fun h => h3 (by rw [← hp0]; exact h.1.2.2.1)), hE1⟩
        · with_reducible first | (replace h3 := deNF h3) | (replace h3 := of_decide_eq_true h3) | (replace h3 := of_decide_eq_false h3) | (replace h3 := deNT h3) | (replace h3 := deNN h3) | (replace h3 := bnT h3) | (replace h3 := bnF h3) | skip
          refine CW.skip ?_
          refine Fin.next ?_
          refine CW.seq ?_
          refine CW.seq ?_
          refine CW.region ?_
          refine RL.y rfl (y_asg rfl) ?_
          refine RL.nil ?_
          refine Fin.next ?_
          refine CW.block ?_
          refine CW.loop (fun m E w' => ∃ i : Nat, m = ps.length - i ∧ i ≤ ps.length ∧ agrees E [(1, .pointer (some ⟨w.heap.size, 0, none⟩)), (3, .int .i64 ps.length), (4, .bool (decide (anyD ds i))), (5, .int .i64 (i : Int))] ∧ 1 ≤ i ∧ (bldTo ps ds i ∧ (2 ≤ i → isD ds 0 = false)) ∧ w1 = w') _ (⟨1, rfl, by omega, ⟨rfl, rfl, congrArg Value.bool (decide_eq_false (anyD_one ds)).symm, rfl, trivial⟩, Nat.le_refl _, ⟨(fun i hi h => absurd hi (by omega)), fun h => absurd h (by omega)⟩, rfl⟩) ?_
          · rintro m E w2 ⟨i, rfl, hi, hag, hi1, ⟨hto, hz⟩, rfl⟩
            refine CW.re _ hag rfl ?_
            refine CW.seq ?_
            refine CW.seq ?_
            refine CW.region ?_
            refine RL.y rfl (y_mov (v := .int _ _) rfl) ?_
            refine RL.y rfl (y_mov (v := .int _ _) rfl) ?_
            refine RL.y rfl (y_lt rfl rfl) ?_
            refine RL.nil ?_
            refine Fin.next ?_
            refine CW.cond rfl rfl (fun hci => ?_) (fun hci => ?_)
            · with_reducible first | (replace hci := deNF hci) | (replace hci := of_decide_eq_true hci) | (replace hci := of_decide_eq_false hci) | (replace hci := deNT hci) | (replace hci := deNN hci) | (replace hci := bnT hci) | (replace hci := bnF hci) | skip
              have hlt : i < ps.length := by omega
              have hltd : i < ds.length := by omega
              have hpi : par ps i = ps[i] := getD_lt hlt
              refine CW.skip ?_
              refine Fin.next ?_
              refine CW.seq ?_
              refine CW.block ?_
              refine CW.seq ?_
              refine CW.seq ?_
              refine CW.region ?_
              refine RL.y rfl (y_fa fa25_0 rfl rfl) ?_
              refine RL.y rfl (y_loadv sc22 (eqw (hV)) rfl rfl) ?_
              refine RL.y rfl (y_mov (v := .int _ _) rfl) ?_
              refine RL.y rfl (y_ixa sT22 (eqw (hp.ext hE1)) (k := i) (ints_lt hlt) rfl rfl) ?_
              refine RL.y rfl (y_load sc2 (eqw (hp.ext hE1)) (ints_at hlt) rfl) ?_
              refine RL.y rfl (y_asg (v := .int _ _) rfl) ?_
              refine RL.nil ?_
              refine Fin.next ?_
              refine CW.seq ?_
              refine CW.region ?_
              refine RL.y rfl (y_mov (v := .int _ _) rfl) ?_
              refine RL.y rfl (y_mov (v := .int _ _) rfl) ?_
              refine RL.y rfl (y_sub rfl rfl (IntWalk.i64_in _ (by omega))) ?_
              refine RL.call rfl (within_any) ?_
              rintro r w3 ⟨rfl, rfl⟩
              refine RL.y rfl (y_not rfl) ?_
              refine RL.y rfl (y_mov (v := .bool _) rfl) ?_
              refine RL.split (t := 45) rfl rfl (fun h5 => ?_) (fun h5 => ?_)
              · with_reducible first | (replace h5 := deNF h5) | (replace h5 := of_decide_eq_true h5) | (replace h5 := of_decide_eq_false h5) | (replace h5 := deNT h5) | (replace h5 := deNN h5) | (replace h5 := bnT h5) | (replace h5 := bnF h5) | skip
                refine RL.pass (t := 45) rfl rfl rfl rfl ?_
                refine RL.pass (t := 45) rfl rfl rfl rfl ?_
                refine RL.pass (t := 45) rfl rfl rfl rfl ?_
                refine RL.pass (t := 45) rfl rfl rfl rfl ?_
                refine RL.pass (t := 45) rfl rfl rfl rfl ?_
                refine RL.y rfl (y_pickT (v := .bool _) rfl rfl) ?_
                refine RL.nil ?_
                refine Fin.next ?_
                refine CW.condT rfl rfl ?_
                refine CW.seq ?_
                refine CW.region ?_
                refine RL.y rfl (y_asg rfl) ?_
                refine RL.nil ?_
                refine Fin.next ?_
                refine CW.ret ?_
                refine Fin.thenRet ?_
                refine Fin.blockRet ?_
                refine Fin.thenRet ?_
                refine Fin.thenRet ?_
                refine Fin.blockRet ?_
                refine Fin.thenRet ?_
                refine Fin.ret1 rfl (by conv => lhs; whnf) ?_
                exact ⟨_, rfl, bF (fun h => h5 (by have := (h.2.1 i hlt hi1).1; omega)), hE1⟩
              · with_reducible first | (replace h5 := deNF h5) | (replace h5 := of_decide_eq_true h5) | (replace h5 := of_decide_eq_false h5) | (replace h5 := deNT h5) | (replace h5 := deNN h5) | (replace h5 := bnT h5) | (replace h5 := bnF h5) | skip
                have hpd : (ps[i]).toNat < ds.length := by omega
                refine RL.take (t := 45) rfl rfl rfl ?_
                refine RL.y rfl (y_fa fa25_1 rfl rfl) ?_
                refine RL.take (t := 45) rfl rfl rfl ?_
                refine RL.y rfl (y_loadv sc23 (eqw (hV)) rfl rfl) ?_
                refine RL.take (t := 45) rfl rfl rfl ?_
                refine RL.y rfl (y_mov (v := .int _ _) rfl) ?_
                refine RL.take (t := 45) rfl rfl rfl ?_
                refine RL.y rfl (y_ixi sT23 (eqw (hd.ext hE1)) h5.1 (by rw [bools_len]; omega) rfl rfl) ?_
                refine RL.take (t := 45) rfl rfl rfl ?_
                refine RL.y rfl (y_load sc4 (eqw (hd.ext hE1)) (bools_at hpd) rfl) ?_
                refine RL.y rfl (y_pickF (v := .bool _) rfl rfl) ?_
                refine RL.nil ?_
                refine Fin.next ?_
                refine CW.cond rfl rfl (fun h6 => ?_) (fun h6 => ?_)
                · with_reducible first | (replace h6 := deNF h6) | (replace h6 := of_decide_eq_true h6) | (replace h6 := of_decide_eq_false h6) | (replace h6 := deNT h6) | (replace h6 := deNN h6) | (replace h6 := bnT h6) | (replace h6 := bnF h6) | skip
                  refine CW.seq ?_
                  refine CW.region ?_
                  refine RL.y rfl (y_asg rfl) ?_
                  refine RL.nil ?_
                  refine Fin.next ?_
                  refine CW.ret ?_
                  refine Fin.thenRet ?_
                  refine Fin.blockRet ?_
                  refine Fin.thenRet ?_
                  refine Fin.thenRet ?_
                  refine Fin.blockRet ?_
                  refine Fin.thenRet ?_
                  refine Fin.ret1 rfl (by conv => lhs; whnf) ?_
                  exact ⟨_, rfl, bF (fun h => by have := (h.2.1 i hlt hi1).2; rw [hpi] at this; unfold isD at this; rw [getD_lt hpd, h6] at this; cases this), hE1⟩
                · with_reducible first | (replace h6 := deNF h6) | (replace h6 := of_decide_eq_true h6) | (replace h6 := of_decide_eq_false h6) | (replace h6 := deNT h6) | (replace h6 := deNN h6) | (replace h6 := bnT h6) | (replace h6 := bnF h6) | skip
                  have hdp : isD ds (ps[i]).toNat = false := by unfold isD; rw [getD_lt hpd]; exact h6
                  have hto' := bldTo_succ hto (fun _ => ⟨by omega, by rw [hpi]; exact hdp⟩)
                  have hz' : 2 ≤ i + 1 → isD ds 0 = false := fun _ => by (rcases Nat.lt_or_ge 1 i with h | h; exact hz h; rw [show (ps[i]).toNat = 0 from by omega] at hdp; exact hdp)
                  have hds : isD ds i = ds[i] := getD_lt hltd
                  refine CW.skip ?_
                  refine Fin.next ?_
                  refine CW.region ?_
                  refine RL.y rfl (y_mov (v := .bool _) rfl) ?_
                  refine RL.y rfl (y_mov (v := .bool _) rfl) ?_
                  refine RL.split (t := 53) rfl rfl (fun h7 => ?_) (fun h7 => ?_)
                  · with_reducible first | (replace h7 := deNF h7) | (replace h7 := of_decide_eq_true h7) | (replace h7 := of_decide_eq_false h7) | (replace h7 := deNT h7) | (replace h7 := deNN h7) | (replace h7 := bnT h7) | (replace h7 := bnF h7) | skip
                    refine RL.pass (t := 53) rfl rfl rfl rfl ?_
                    refine RL.pass (t := 53) rfl rfl rfl rfl ?_
                    refine RL.pass (t := 53) rfl rfl rfl rfl ?_
                    refine RL.pass (t := 53) rfl rfl rfl rfl ?_
                    refine RL.pass (t := 53) rfl rfl rfl rfl ?_
                    refine RL.y rfl (y_pickT (v := .bool _) rfl rfl) ?_
                    refine RL.y rfl (y_asg (v := .bool _) rfl) ?_
                    refine RL.nil ?_
                    refine Fin.blockNormal ?_
                    refine Fin.next ?_
                    refine CW.region ?_
                    refine RL.y rfl (y_mov (v := .int _ _) rfl) ?_
                    refine RL.y rfl (y_add rfl rfl (IntWalk.i64_in _ (by omega))) ?_
                    refine RL.y rfl (y_asg (v := .int _ _) rfl) ?_
                    refine RL.nil ?_
                    refine Fin.le ?_
                    exact ⟨ps.length - (i + 1), by omega, i + 1, rfl, hlt, ⟨rfl, rfl, by rw [anyD_succ hi1, decide_eq_true h7]; rfl, rfl, trivial⟩, by omega, ⟨hto', hz'⟩, rfl⟩
                  · with_reducible first | (replace h7 := deNF h7) | (replace h7 := of_decide_eq_true h7) | (replace h7 := of_decide_eq_false h7) | (replace h7 := deNT h7) | (replace h7 := deNN h7) | (replace h7 := bnT h7) | (replace h7 := bnF h7) | skip
                    refine RL.take (t := 53) rfl rfl rfl ?_
                    refine RL.y rfl (y_fa fa25_1 rfl rfl) ?_
                    refine RL.take (t := 53) rfl rfl rfl ?_
                    refine RL.y rfl (y_loadv sc23 (eqw (hV)) rfl rfl) ?_
                    refine RL.take (t := 53) rfl rfl rfl ?_
                    refine RL.y rfl (y_mov (v := .int _ _) rfl) ?_
                    refine RL.take (t := 53) rfl rfl rfl ?_
                    refine RL.y rfl (y_ixa sT23 (eqw (hd.ext hE1)) (k := i) (bools_lt hltd) rfl rfl) ?_
                    refine RL.take (t := 53) rfl rfl rfl ?_
                    refine RL.y rfl (y_load sc4 (eqw (hd.ext hE1)) (bools_at hltd) rfl) ?_
                    refine RL.y rfl (y_pickF (v := .bool _) rfl rfl) ?_
                    refine RL.y rfl (y_asg (v := .bool _) rfl) ?_
                    refine RL.nil ?_
                    refine Fin.blockNormal ?_
                    refine Fin.next ?_
                    refine CW.region ?_
                    refine RL.y rfl (y_mov (v := .int _ _) rfl) ?_
                    refine RL.y rfl (y_add rfl rfl (IntWalk.i64_in _ (by omega))) ?_
                    refine RL.y rfl (y_asg (v := .int _ _) rfl) ?_
                    refine RL.nil ?_
                    refine Fin.le ?_
                    exact ⟨ps.length - (i + 1), by omega, i + 1, rfl, hlt, ⟨rfl, rfl, by rw [anyD_succ hi1, decide_eq_false h7, hds, Bool.false_or]; rfl, rfl, trivial⟩, by omega, ⟨hto', hz'⟩, rfl⟩
            · with_reducible first | (replace hci := deNF hci) | (replace hci := of_decide_eq_true hci) | (replace hci := of_decide_eq_false hci) | (replace hci := deNT hci) | (replace hci := deNN hci) | (replace hci := bnT hci) | (replace hci := bnF hci) | skip
              obtain rfl : i = ps.length := by omega
              refine CW.exit ?_
              refine Fin.thenExit ?_
              refine Fin.thenExit ?_
              refine Fin.blockHit ?_
              refine Fin.next ?_
              refine CW.seq ?_
              refine CW.region ?_
              refine RL.y rfl (y_mov (v := .bool _) rfl) ?_
              refine RL.y rfl (y_asg (v := .bool _) rfl) ?_
              refine RL.nil ?_
              refine Fin.next ?_
              refine CW.ret ?_
              refine Fin.ret1 rfl (by conv => lhs; whnf) ?_
              exact ⟨_, rfl, bD ⟨fun h => ⟨⟨by omega, by omega, by omega, hz (by omega)⟩, hto, h⟩, fun h => h.2.2⟩, hE1⟩


end Go.Proofs.YtebegkegkdmbjaaDoor
