/-
  Plans: AccessOf, LeastRights.
-/
import Derived.Test.YtkkeipogkjlneaaFPln3
import Derived.Test.YtkkeipogkjlneaaAny
import Derived.Test.YtkkeipogkjlneaaDraw
namespace Go.Proofs.Ytkkeipogkjlneaa
open B Go.RowKit

theorem l10Access_any {w : World} {v : Value} {ps : List Int} {ds : List Bool} {rs : List (List Int)} (hp : RdP w v ps ds rs) (hpl : pln ps ds rs) :
    Does Try.prog 93 #[v] w (fun v' w' => OwSS w' w.heap.size w'.heap.size v' (acL ps ds rs) ∧ Ext w w') := by
  obtain ⟨vp, vd, vr, rfl, hb, hr⟩ := hp
  obtain ⟨cs, hc⟩ := hr
  have hxl := hc.le
  have h24 := drs_len hpl.1
  have h10 := hpl.2.1
  refine enter Try.func93 rfl 49 Try.ntmps93 rfl (by kernel_rfl) ?_
  refine CW.seq ?_
  refine CW.region ?_
  refine RL.box (cs := [vp, vd, vr]) rfl rfl rfl (fun w1 hV hE1 => ?_)
  refine RL.y rfl (y_asg rfl) ?_
  refine RL.nil ?_
  refine Fin.next ?_
  refine CW.seq ?_
  refine CW.region ?_
  refine RL.y rfl (y_fa fa33_0 rfl rfl) ?_
  refine RL.y rfl (y_loadp (ds := [vp, vd]) ag31 (eqw (hV)) rfl rfl rfl) ?_
  refine RL.call rfl (l09Doors_any (hb.ext hE1) hpl.1) ?_
  rintro vl w2 ⟨hol, hE2⟩
  replace hol : OV w2 w1.heap.size 2 vl (ints (drs ps ds)) := hol
  refine RL.y rfl (y_asg (by conv => lhs; whnf)) ?_
  refine RL.nil ?_
  refine Fin.next ?_
  refine CW.seq ?_
  refine CW.region ?_
  refine RL.lit0 rfl sT26 (fun vo w3 ho3 hE3 hb3 => ?_)
  refine RL.y rfl (y_asg (by conv => lhs; whnf)) ?_
  refine RL.nil ?_
  refine Fin.next ?_
  refine CW.seq ?_
  refine CW.seq ?_
  refine CW.region ?_
  refine RL.y rfl (y_asg rfl) ?_
  refine RL.nil ?_
  refine Fin.next ?_
  refine CW.block ?_
  refine CW.loop (fun q E w' => ∃ (k : Nat) (vo : Value) (cv : List Value) (U : Nat), q = rs.length - k ∧ k ≤ rs.length ∧ agrees E [(1, .pointer (some ⟨w.heap.size, 0, none⟩)), (3, vl), (4, vo), (5, .int .i64 (k : Int))] ∧ OwC ints 2 22 w' w2.heap.size U vo cv (acL ps ds (rs.take k)) ∧ Ext w2 w') _ (⟨0, vo, [], _, rfl, Nat.zero_le _, ⟨rfl, rfl, rfl, rfl, trivial⟩, OwC.nil ho3, hE3⟩) ?_
  · rintro q E w4 ⟨k, vo, cv, U, rfl, hk, hag, ho4, hE4⟩
    refine CW.re _ hag rfl ?_
    have hdl := ho4.2.1
    rw [acL_len, List.length_take] at hdl
    have hE14 := hE2.trans hE4
    have hE04 := hE1.trans hE14
    refine CW.seq ?_
    refine CW.seq ?_
    refine CW.region ?_
    refine RL.y rfl (y_mov (v := .int _ _) rfl) ?_
    refine RL.y rfl (y_fa fa33_1 rfl rfl) ?_
    refine RL.y rfl (y_loadv sc26 (eqw (hV.ext hE14)) rfl rfl) ?_
    refine RL.y rfl (y_len sT26 hc.1 hc.2.1 rfl) ?_
    refine RL.y rfl (y_lt rfl rfl) ?_
    refine RL.nil ?_
    refine Fin.next ?_
    refine CW.cond rfl rfl (fun hck => ?_) (fun hck => ?_)
    · with_reducible first | (replace hck := deNF hck) | (replace hck := of_decide_eq_true hck) | (replace hck := of_decide_eq_false hck) | (replace hck := deNT hck) | (replace hck := deNN hck) | (replace hck := bnT hck) | (replace hck := bnF hck) | skip
      have hlt : k < rs.length := by omega
      refine CW.skip ?_
      refine Fin.next ?_
      refine CW.seq ?_
      refine CW.block ?_
      refine CW.seq ?_
      refine CW.region ?_
      refine RL.lit0 rfl sT22 (fun vw w5 ho5 hE5 hb5 => ?_)
      have hU := ho4.1.2.1
      refine RL.y rfl (y_asg (by conv => lhs; whnf)) ?_
      refine RL.nil ?_
      refine Fin.next ?_
      refine CW.seq ?_
      refine CW.seq ?_
      refine CW.region ?_
      refine RL.y rfl (y_asg rfl) ?_
      refine RL.nil ?_
      refine Fin.next ?_
      refine CW.block ?_
      refine CW.loop (fun q E w' => ∃ (i : Nat) (vw : Value), q = (drs ps ds).length - i ∧ i ≤ (drs ps ds).length ∧ agrees E [(1, .pointer (some ⟨w.heap.size, 0, none⟩)), (3, vl), (4, vo), (5, .int .i64 (k : Int)), (6, vw), (7, .int .i64 (i : Int))] ∧ OV w' w4.heap.size 2 vw (ints (acRow ps rs[k] ((drs ps ds).take i))) ∧ Ext w4 w') _ (⟨0, vw, rfl, Nat.zero_le _, ⟨rfl, rfl, rfl, rfl, rfl, rfl, trivial⟩, ho5, hE5⟩) ?_
      · rintro q E w6 ⟨i, vw, rfl, hi, hag, ho6, hE6⟩
        refine CW.re _ hag rfl ?_
        have hE46 := hE4.trans hE6
        have hE16 := hE2.trans hE46
        have hE06 := hE1.trans hE16
        refine CW.seq ?_
        refine CW.seq ?_
        refine CW.region ?_
        refine RL.y rfl (y_mov (v := .int _ _) rfl) ?_
        refine RL.y rfl (y_mov (by conv => lhs; whnf)) ?_
        refine RL.y rfl (y_len sT22 (hol.ext hE46).sv (ints_len _) rfl) ?_
        refine RL.y rfl (y_lt rfl rfl) ?_
        refine RL.nil ?_
        refine Fin.next ?_
        refine CW.cond rfl rfl (fun hci => ?_) (fun hci => ?_)
        · with_reducible first | (replace hci := deNF hci) | (replace hci := of_decide_eq_true hci) | (replace hci := of_decide_eq_false hci) | (replace hci := deNT hci) | (replace hci := deNN hci) | (replace hci := bnT hci) | (replace hci := bnF hci) | skip
          have hlti : i < (drs ps ds).length := by omega
          have hdr := mem_idxs_door (List.getElem_mem hlti)
          refine CW.skip ?_
          refine Fin.next ?_
          refine CW.seq ?_
          refine CW.block ?_
          refine CW.seq ?_
          refine CW.quietE mixed (by kernel_rfl) ?_
          refine QL.y rfl (y_fa fa33_0 rfl rfl) ?_
          refine QL.y rfl (y_loadp (ds := [vp, vd]) ag31 (fun _ hC => (hV.ext hE16).ext hC) rfl rfl rfl) ?_
          refine QL.y rfl (y_fa fa33_1 rfl rfl) ?_
          refine QL.y rfl (y_loadv sc26 (fun _ hC => (hV.ext hE16).ext hC) rfl rfl) ?_
          refine QL.y rfl (y_mov (v := .int _ _) rfl) ?_
          refine QL.y rfl (y_ixa sT26 (fun _ hC => (hc.1.ext hE06).ext hC) (k := k) (hc.lt hlt) rfl rfl) ?_
          refine QL.y rfl (y_load sc22 (fun _ hC => (hc.1.ext hE06).ext hC) (hc.at hlt) rfl) ?_
          refine QL.y rfl (y_mov (by conv => lhs; whnf)) ?_
          refine QL.y rfl (y_mov (v := .int _ _) rfl) ?_
          refine QL.y rfl (y_ixa sT22 (fun _ hC => ((hol.ext hE46).sv).ext hC) (k := i) (ints_lt hlti) rfl rfl) ?_
          refine QL.y rfl (y_load sc2 (fun _ hC => ((hol.ext hE46).sv).ext hC) (ints_at hlti) rfl) ?_
          refine QL.call rfl (fun _ hC => qc hC (l10May_any ((hb.ext hE06).ext hC) (((hc.row hlt).ext hE06).ext hC) (bld_tree hpl.1) hdr.2 hpl.1.1.1.2)) ?_
          refine QL.nil (fun w7 hE7 => ?_)
          refine Fin.next ?_
          refine CW.cond rfl rfl (fun hm => ?_) (fun hm => ?_)
          · with_reducible first | (replace hm := deNF hm) | (replace hm := of_decide_eq_true hm) | (replace hm := of_decide_eq_false hm) | (replace hm := deNT hm) | (replace hm := deNN hm) | (replace hm := bnT hm) | (replace hm := bnF hm) | skip
            refine CW.region ?_
            refine RL.y rfl (y_mov (by conv => lhs; whnf)) ?_
            refine RL.app1i rfl rfl sT22 (by omega) (ho6.ext hE7) (by rw [acRow_len]; simp; omega) (hE6.trans hE7).size rfl (fun _ => rfl) (fun u v8 w8 ho8 hg8 hn8 => ?_)
            refine RL.y rfl (y_asg (by conv => lhs; whnf)) ?_
            refine RL.nil ?_
            refine Fin.blockNormal ?_
            refine Fin.next ?_
            refine CW.region ?_
            refine RL.y rfl (y_mov (v := .int _ _) rfl) ?_
            refine RL.y rfl (y_add rfl rfl (IntWalk.i64_in _ (by omega))) ?_
            refine RL.y rfl (y_asg (v := .int _ _) rfl) ?_
            refine RL.nil ?_
            refine Fin.le ?_
            exact ⟨(drs ps ds).length - (i + 1), by omega, i + 1, v8, rfl, hlti, ⟨rfl, rfl, rfl, rfl, rfl, rfl, trivial⟩, by rw [acRow_snoc hlti, if_pos hm]; exact ho8, (hE6.trans hE7).grown hg8 (fun b hb => (ho6.lt b hb).1)⟩
          · with_reducible first | (replace hm := deNF hm) | (replace hm := of_decide_eq_true hm) | (replace hm := of_decide_eq_false hm) | (replace hm := deNT hm) | (replace hm := deNN hm) | (replace hm := bnT hm) | (replace hm := bnF hm) | skip
            refine CW.region ?_
            refine RL.y rfl (y_mov (by conv => lhs; whnf)) ?_
            refine RL.app1i rfl rfl sT22 (by omega) (ho6.ext hE7) (by rw [acRow_len]; simp; omega) (hE6.trans hE7).size rfl (fun _ => rfl) (fun u v8 w8 ho8 hg8 hn8 => ?_)
            refine RL.y rfl (y_asg (by conv => lhs; whnf)) ?_
            refine RL.nil ?_
            refine Fin.blockNormal ?_
            refine Fin.next ?_
            refine CW.region ?_
            refine RL.y rfl (y_mov (v := .int _ _) rfl) ?_
            refine RL.y rfl (y_add rfl rfl (IntWalk.i64_in _ (by omega))) ?_
            refine RL.y rfl (y_asg (v := .int _ _) rfl) ?_
            refine RL.nil ?_
            refine Fin.le ?_
            exact ⟨(drs ps ds).length - (i + 1), by omega, i + 1, v8, rfl, hlti, ⟨rfl, rfl, rfl, rfl, rfl, rfl, trivial⟩, by rw [acRow_snoc hlti, if_neg hm]; exact ho8, (hE6.trans hE7).grown hg8 (fun b hb => (ho6.lt b hb).1)⟩
        · with_reducible first | (replace hci := deNF hci) | (replace hci := of_decide_eq_true hci) | (replace hci := of_decide_eq_false hci) | (replace hci := deNT hci) | (replace hci := deNN hci) | (replace hci := bnT hci) | (replace hci := bnF hci) | skip
          obtain rfl : i = (drs ps ds).length := by omega
          rw [List.take_length] at ho6
          have ho46 := ho4.ext hE6
          refine CW.exit ?_
          refine Fin.thenExit ?_
          refine Fin.thenExit ?_
          refine Fin.blockHit ?_
          refine Fin.next ?_
          refine CW.region ?_
          refine RL.y rfl (y_mov (by conv => lhs; whnf)) ?_
          refine RL.y rfl (y_mov (by conv => lhs; whnf)) ?_
          refine RL.app1 rfl rfl sT26 (by omega) ho46.1.ov (by omega) hE46.size rfl (slice_one ho6.sv) (fun _ => rfl) (fun u v7 w7 ho7 hg7 hn7 => ?_)
          have hp := ho46.push (ho6.mono hE4.size) (fun b hb => by have := (ho6.lt b hb).1; omega) ho7 hg7 hn7
          rw [← acL_snoc hlt] at hp
          refine RL.y rfl (y_asg (by conv => lhs; whnf)) ?_
          refine RL.nil ?_
          refine Fin.blockNormal ?_
          refine Fin.next ?_
          refine CW.region ?_
          refine RL.y rfl (y_mov (v := .int _ _) rfl) ?_
          refine RL.y rfl (y_add rfl rfl (IntWalk.i64_in _ (by omega))) ?_
          refine RL.y rfl (y_asg (v := .int _ _) rfl) ?_
          refine RL.nil ?_
          refine Fin.le ?_
          exact ⟨rs.length - (k + 1), by omega, k + 1, v7, _, _, rfl, hlt, ⟨rfl, rfl, rfl, rfl, trivial⟩, hp, hE46.grown hg7 (fun b hb => (ho46.1.lt b hb).1)⟩
    · with_reducible first | (replace hck := deNF hck) | (replace hck := of_decide_eq_true hck) | (replace hck := of_decide_eq_false hck) | (replace hck := deNT hck) | (replace hck := deNN hck) | (replace hck := bnT hck) | (replace hck := bnF hck) | skip
      obtain rfl : k = rs.length := by omega
      rw [List.take_length] at ho4
      refine CW.exit ?_
      refine Fin.thenExit ?_
      refine Fin.thenExit ?_
      refine Fin.blockHit ?_
      refine Fin.next ?_
      refine CW.seq ?_
      refine CW.region ?_
      refine RL.y rfl (y_mov (by conv => lhs; whnf)) ?_
      refine RL.y rfl (y_asg (by conv => lhs; whnf)) ?_
      refine RL.nil ?_
      refine Fin.next ?_
      refine CW.ret ?_
      refine Fin.ret1 rfl (by conv => lhs; whnf) ?_
      exact ⟨_, rfl, OwN.wide ⟨cv, ho4⟩ (hE1.trans hE2).size ho4.1.2.1 (Nat.le_refl _), hE04⟩

theorem specAccessOf_any {w : World} {v : Value} {ps : List Int} {ds : List Bool} {rs : List (List Int)} (hp : RdP w v ps ds rs) :
    Does Try.prog 36 #[v] w (fun r w' => ∃ v1, r = .tuple #[v1, .int .i64 (plC ps ds rs)] ∧ OwSS w' w.heap.size w'.heap.size v1 (acV ps ds rs) ∧ Ext w w') := by
  have hp0 := hp
  obtain ⟨vp, vd, vr, rfl, hb, hr⟩ := hp
  refine enter Try.func36 rfl 9 Try.ntmps36 rfl (by kernel_rfl) ?_
  refine CW.seq ?_
  refine CW.region ?_
  refine RL.box (cs := [vp, vd, vr]) rfl rfl rfl (fun w1 hV hE1 => ?_)
  refine RL.y rfl (y_asg rfl) ?_
  refine RL.y rfl (y_asg rfl) ?_
  refine RL.nil ?_
  refine Fin.next ?_
  refine CW.seq ?_
  refine CW.seq ?_
  refine CW.region ?_
  refine RL.y rfl (y_loads ag33 rfl (eqw (hV)) rfl) ?_
  refine RL.call rfl (specIsPlan_any (hp0.ext hE1)) ?_
  rintro r w2 ⟨rfl, hE2⟩
  have hE12 := hE1.trans hE2
  refine RL.y rfl (y_not rfl) ?_
  refine RL.nil ?_
  refine Fin.next ?_
  refine CW.cond rfl rfl (fun h1 => ?_) (fun h1 => ?_)
  · with_reducible first | (replace h1 := deNF h1) | (replace h1 := of_decide_eq_true h1) | (replace h1 := of_decide_eq_false h1) | (replace h1 := deNT h1) | (replace h1 := deNN h1) | (replace h1 := bnT h1) | (replace h1 := bnF h1) | skip
    refine CW.seq ?_
    refine CW.region ?_
    refine RL.y rfl (y_asg rfl) ?_
    refine RL.y rfl (y_asg rfl) ?_
    refine RL.nil ?_
    refine Fin.next ?_
    refine CW.ret ?_
    refine Fin.thenRet ?_
    refine Fin.ret2 rfl (by conv => lhs; whnf) (by conv => lhs; whnf) ?_
    exact ⟨_, rfl, _, by unfold plC; rw [if_neg h1], by unfold acV; rw [if_neg h1]; exact (OwN.nil _ _), hE12⟩
  · with_reducible first | (replace h1 := deNF h1) | (replace h1 := of_decide_eq_true h1) | (replace h1 := of_decide_eq_false h1) | (replace h1 := deNT h1) | (replace h1 := deNN h1) | (replace h1 := bnT h1) | (replace h1 := bnF h1) | skip
    refine CW.skip ?_
    refine Fin.next ?_
    refine CW.seq ?_
    refine CW.region ?_
    refine RL.y rfl (y_loads ag33 rfl (eqw (hV.ext hE2)) rfl) ?_
    refine RL.call rfl (l10Access_any (hp0.ext hE12) h1) ?_
    rintro v3 w3 ⟨ho, hE3⟩
    refine RL.y rfl (y_asg (by conv => lhs; whnf)) ?_
    refine RL.y rfl (y_asg rfl) ?_
    refine RL.nil ?_
    refine Fin.next ?_
    refine CW.ret ?_
    refine Fin.ret2 rfl (by conv => lhs; whnf) (by conv => lhs; whnf) ?_
    exact ⟨_, rfl, _, by unfold plC; rw [if_pos h1], by unfold acV; rw [if_pos h1]; exact ho.wide hE12.size (Nat.le_refl _) (Nat.le_refl _), hE12.trans hE3⟩

theorem implAccessOf_any {w : World} {v : Value} {ps : List Int} {ds : List Bool} {rs : List (List Int)} (hp : RdP w v ps ds rs) :
    Does Try.prog 37 #[v] w (fun r w' => ∃ v1, r = .tuple #[v1, .int .i64 (plC ps ds rs)] ∧ OwSS w' w.heap.size w'.heap.size v1 (acV ps ds rs) ∧ Ext w w') := by
  have hp0 := hp
  obtain ⟨vp, vd, vr, rfl, hb, hr⟩ := hp
  obtain ⟨cs, hc⟩ := hr
  have hxl := hc.le
  refine enter Try.func37 rfl 44 Try.ntmps37 rfl (by kernel_rfl) ?_
  refine CW.seq ?_
  refine CW.region ?_
  refine RL.box (cs := [vp, vd, vr]) rfl rfl rfl (fun w1 hV hE1 => ?_)
  refine RL.y rfl (y_asg rfl) ?_
  refine RL.y rfl (y_asg rfl) ?_
  refine RL.nil ?_
  refine Fin.next ?_
  refine CW.seq ?_
  refine CW.seq ?_
  refine CW.region ?_
  refine RL.y rfl (y_loads ag33 rfl (eqw (hV)) rfl) ?_
  refine RL.call rfl (implIsPlan_any (hp0.ext hE1)) ?_
  rintro r w2 ⟨rfl, hE2⟩
  have hE12 := hE1.trans hE2
  refine RL.y rfl (y_not rfl) ?_
  refine RL.nil ?_
  refine Fin.next ?_
  refine CW.cond rfl rfl (fun hpl => ?_) (fun hpl => ?_)
  · with_reducible first | (replace hpl := deNF hpl) | (replace hpl := of_decide_eq_true hpl) | (replace hpl := of_decide_eq_false hpl) | (replace hpl := deNT hpl) | (replace hpl := deNN hpl) | (replace hpl := bnT hpl) | (replace hpl := bnF hpl) | skip
    refine CW.seq ?_
    refine CW.region ?_
    refine RL.y rfl (y_asg rfl) ?_
    refine RL.y rfl (y_asg rfl) ?_
    refine RL.nil ?_
    refine Fin.next ?_
    refine CW.ret ?_
    refine Fin.thenRet ?_
    refine Fin.ret2 rfl (by conv => lhs; whnf) (by conv => lhs; whnf) ?_
    exact ⟨_, rfl, _, by unfold plC; rw [if_neg hpl], by unfold acV; rw [if_neg hpl]; exact (OwN.nil _ _), hE12⟩
  · with_reducible first | (replace hpl := deNF hpl) | (replace hpl := of_decide_eq_true hpl) | (replace hpl := of_decide_eq_false hpl) | (replace hpl := deNT hpl) | (replace hpl := deNN hpl) | (replace hpl := bnT hpl) | (replace hpl := bnF hpl) | skip
    have h24 := drs_len hpl.1
    have h10 := hpl.2.1
    refine CW.skip ?_
    refine Fin.next ?_
    refine CW.seq ?_
    refine CW.region ?_
    refine RL.lit0 rfl sT26 (fun vo w3 ho3 hE3 hb3 => ?_)
    refine RL.y rfl (y_asg (by conv => lhs; whnf)) ?_
    refine RL.nil ?_
    refine Fin.next ?_
    refine CW.seq ?_
    refine CW.seq ?_
    refine CW.region ?_
    refine RL.y rfl (y_fa fa33_1 rfl rfl) ?_
    refine RL.y rfl (y_loadv sc26 (eqw ((hV.ext hE2).ext hE3)) rfl rfl) ?_
    refine RL.y rfl (y_len sT26 hc.1 hc.2.1 rfl) ?_
    refine RL.y rfl (y_mov rfl) ?_
    refine RL.nil ?_
    refine Fin.next ?_
    refine CW.block ?_
    refine CW.loop (fun q E w' => ∃ (k : Nat) (vo : Value) (cv : List Value) (U : Nat), q = rs.length - k ∧ k ≤ rs.length ∧ agrees E [(1, .pointer (some ⟨w.heap.size, 0, none⟩)), (4, vo), (16, .int .i64 rs.length), (17, .int .i64 (k : Int))] ∧ OwC ints 2 22 w' w2.heap.size U vo cv (acL ps ds (rs.take k)) ∧ Ext w2 w') _ (⟨0, vo, [], _, rfl, Nat.zero_le _, ⟨rfl, rfl, rfl, rfl, trivial⟩, OwC.nil ho3, hE3⟩) ?_
    · rintro q E w4 ⟨k, vo, cv, U, rfl, hk, hag, ho4, hE4⟩
      refine CW.re _ hag rfl ?_
      have hdl := ho4.2.1
      rw [acL_len, List.length_take] at hdl
      have hE14 := hE2.trans hE4
      have hE04 := hE1.trans hE14
      refine CW.seq ?_
      refine CW.region ?_
      refine RL.y rfl (y_lt rfl rfl) ?_
      refine RL.nil ?_
      refine Fin.next ?_
      refine CW.seq ?_
      refine CW.cond rfl rfl (fun hck => ?_) (fun hck => ?_)
      · with_reducible first | (replace hck := deNF hck) | (replace hck := of_decide_eq_true hck) | (replace hck := of_decide_eq_false hck) | (replace hck := deNT hck) | (replace hck := deNN hck) | (replace hck := bnT hck) | (replace hck := bnF hck) | skip
        have hlt : k < rs.length := by omega
        refine CW.skip ?_
        refine Fin.next ?_
        refine CW.seq ?_
        refine CW.block ?_
        refine CW.seq ?_
        refine CW.region ?_
        refine RL.y rfl (y_mov (v := .int _ _) rfl) ?_
        refine RL.y rfl (y_asg (v := .int _ _) rfl) ?_
        refine RL.nil ?_
        refine Fin.next ?_
        refine CW.seq ?_
        refine CW.region ?_
        refine RL.lit0 rfl sT22 (fun vw w5 ho5 hE5 hb5 => ?_)
        have hU := ho4.1.2.1
        have hE15 := hE14.trans hE5
        refine RL.y rfl (y_asg (by conv => lhs; whnf)) ?_
        refine RL.nil ?_
        refine Fin.next ?_
        refine CW.seq ?_
        refine CW.seq ?_
        refine CW.region ?_
        refine RL.y rfl (y_fa fa33_0 rfl rfl) ?_
        refine RL.y rfl (y_loadp (ds := [vp, vd]) ag31 (eqw (hV.ext hE15)) rfl rfl rfl) ?_
        refine RL.call rfl (doorsUnder_any (hb.ext (hE1.trans hE15)) hpl.1 (Int.le_refl 0)) ?_
        rintro vl w6 ⟨hol, hE6⟩
        replace hol : OV w6 w5.heap.size 2 vl (ints (drs ps ds)) := hol
        refine RL.y rfl (y_len sT22 hol.sv (ints_len _) rfl) ?_
        refine RL.y rfl (y_mov rfl) ?_
        refine RL.nil ?_
        refine Fin.next ?_
        refine CW.block ?_
        refine CW.loop (fun q E w' => ∃ (i : Nat) (vw : Value), q = (drs ps ds).length - i ∧ i ≤ (drs ps ds).length ∧ agrees E [(1, .pointer (some ⟨w.heap.size, 0, none⟩)), (4, vo), (16, .int .i64 rs.length), (17, .int .i64 (k : Int)), (5, .int .i64 (k : Int)), (6, vw), (23, vl), (24, .int .i64 (drs ps ds).length), (25, .int .i64 (i : Int))] ∧ OV w' w4.heap.size 2 vw (ints (acRow ps rs[k] ((drs ps ds).take i))) ∧ OV w' w5.heap.size 2 vl (ints (drs ps ds)) ∧ NB vl vw ∧ Ext w4 w') _ (⟨0, vw, rfl, Nat.zero_le _, ⟨rfl, rfl, rfl, rfl, rfl, rfl, rfl, rfl, rfl, trivial⟩, ho5.ext hE6, hol, (fun x h1 h2 => by have := (hol.lt x h1).1; have := (ho5.lt x h2).2; omega), hE5.trans hE6⟩) ?_
        · rintro q E w7 ⟨i, vw, rfl, hi, hag, ho7, hol7, hnb, hE7⟩
          refine CW.re _ hag rfl ?_
          have hE47 := hE4.trans hE7
          have hE17 := hE2.trans hE47
          have hE07 := hE1.trans hE17
          refine CW.seq ?_
          refine CW.region ?_
          refine RL.y rfl (y_lt rfl rfl) ?_
          refine RL.nil ?_
          refine Fin.next ?_
          refine CW.seq ?_
          refine CW.cond rfl rfl (fun hci => ?_) (fun hci => ?_)
          · with_reducible first | (replace hci := deNF hci) | (replace hci := of_decide_eq_true hci) | (replace hci := of_decide_eq_false hci) | (replace hci := deNT hci) | (replace hci := deNN hci) | (replace hci := bnT hci) | (replace hci := bnF hci) | skip
            have hlti : i < (drs ps ds).length := by omega
            have hdr := mem_idxs_door (List.getElem_mem hlti)
            refine CW.skip ?_
            refine Fin.next ?_
            refine CW.seq ?_
            refine CW.block ?_
            refine CW.seq ?_
            refine CW.region ?_
            refine RL.y rfl (y_ixa sT22 (eqw (hol7.sv)) (k := i) (ints_lt hlti) rfl rfl) ?_
            refine RL.y rfl (y_load sc2 (eqw (hol7.sv)) (ints_at hlti) rfl) ?_
            refine RL.y rfl (y_asg (v := .int _ _) rfl) ?_
            refine RL.nil ?_
            refine Fin.next ?_
            refine CW.seq ?_
            refine CW.region ?_
            refine RL.y rfl (y_asg rfl) ?_
            refine RL.nil ?_
            refine Fin.next ?_
            refine CW.seq ?_
            refine CW.seq ?_
            refine CW.region ?_
            refine RL.y rfl (y_loads ag33 rfl (eqw (hV.ext hE17)) rfl) ?_
            refine RL.y rfl (y_mov (v := .int _ _) rfl) ?_
            refine RL.y rfl (y_mov (v := .int _ _) rfl) ?_
            refine RL.call rfl (mayEnter_any (k := (k : Int)) (hp0.ext hE07) hpl ⟨by omega, by omega⟩ hdr.2) ?_
            rintro r w8 ⟨rfl, hE8⟩
            rw [row_nat, getD_lt hlt]
            refine RL.nil ?_
            refine Fin.next ?_
            refine CW.cond rfl rfl (fun hm => ?_) (fun hm => ?_)
            · with_reducible first | (replace hm := deNF hm) | (replace hm := of_decide_eq_true hm) | (replace hm := of_decide_eq_false hm) | (replace hm := deNT hm) | (replace hm := deNN hm) | (replace hm := bnT hm) | (replace hm := bnF hm) | skip
              refine CW.region ?_
              refine RL.y rfl (y_asg rfl) ?_
              refine RL.nil ?_
              refine Fin.next ?_
              refine CW.region ?_
              refine RL.y rfl (y_mov (by conv => lhs; whnf)) ?_
              refine RL.y rfl (y_mov (v := .int _ _) rfl) ?_
              refine RL.app1i rfl rfl sT22 (by omega) (ho7.ext hE8) (by rw [acRow_len]; simp; omega) (hE7.trans hE8).size rfl (fun _ => rfl) (fun u v9 w9 ho9 hg9 hn9 => ?_)
              refine RL.y rfl (y_asg (by conv => lhs; whnf)) ?_
              refine RL.nil ?_
              refine Fin.blockNormal ?_
              refine Fin.next ?_
              refine CW.region ?_
              refine RL.y rfl (y_add rfl rfl (IntWalk.i64_in _ (by omega))) ?_
              refine RL.y rfl (y_mov (v := .int _ _) rfl) ?_
              refine RL.nil ?_
              refine Fin.le ?_
              exact ⟨(drs ps ds).length - (i + 1), by omega, i + 1, v9, rfl, hlti, ⟨rfl, rfl, rfl, rfl, rfl, rfl, rfl, rfl, rfl, trivial⟩, by rw [acRow_snoc hlti, if_pos hm]; exact ho9, ov_other (hol7.ext hE8) hg9 hnb, nb_new hnb (hol7.ext hE8).blk hn9, (hE7.trans hE8).grown hg9 (fun b hb => (ho7.lt b hb).1)⟩
            · with_reducible first | (replace hm := deNF hm) | (replace hm := of_decide_eq_true hm) | (replace hm := of_decide_eq_false hm) | (replace hm := deNT hm) | (replace hm := deNN hm) | (replace hm := bnT hm) | (replace hm := bnF hm) | skip
              refine CW.skip ?_
              refine Fin.next ?_
              refine CW.region ?_
              refine RL.y rfl (y_mov (by conv => lhs; whnf)) ?_
              refine RL.y rfl (y_mov (v := .int _ _) rfl) ?_
              refine RL.app1i rfl rfl sT22 (by omega) (ho7.ext hE8) (by rw [acRow_len]; simp; omega) (hE7.trans hE8).size rfl (fun _ => rfl) (fun u v9 w9 ho9 hg9 hn9 => ?_)
              refine RL.y rfl (y_asg (by conv => lhs; whnf)) ?_
              refine RL.nil ?_
              refine Fin.blockNormal ?_
              refine Fin.next ?_
              refine CW.region ?_
              refine RL.y rfl (y_add rfl rfl (IntWalk.i64_in _ (by omega))) ?_
              refine RL.y rfl (y_mov (v := .int _ _) rfl) ?_
              refine RL.nil ?_
              refine Fin.le ?_
              exact ⟨(drs ps ds).length - (i + 1), by omega, i + 1, v9, rfl, hlti, ⟨rfl, rfl, rfl, rfl, rfl, rfl, rfl, rfl, rfl, trivial⟩, by rw [acRow_snoc hlti, if_neg hm]; exact ho9, ov_other (hol7.ext hE8) hg9 hnb, nb_new hnb (hol7.ext hE8).blk hn9, (hE7.trans hE8).grown hg9 (fun b hb => (ho7.lt b hb).1)⟩
          · with_reducible first | (replace hci := deNF hci) | (replace hci := of_decide_eq_true hci) | (replace hci := of_decide_eq_false hci) | (replace hci := deNT hci) | (replace hci := deNN hci) | (replace hci := bnT hci) | (replace hci := bnF hci) | skip
            obtain rfl : i = (drs ps ds).length := by omega
            rw [List.take_length] at ho7
            have ho47 := ho4.ext hE7
            refine CW.exit ?_
            refine Fin.thenExit ?_
            refine Fin.thenExit ?_
            refine Fin.blockHit ?_
            refine Fin.next ?_
            refine CW.region ?_
            refine RL.y rfl (y_mov (by conv => lhs; whnf)) ?_
            refine RL.y rfl (y_mov (by conv => lhs; whnf)) ?_
            refine RL.app1 rfl rfl sT26 (by omega) ho47.1.ov (by omega) hE47.size rfl (slice_one ho7.sv) (fun _ => rfl) (fun u v8 w8 ho8 hg8 hn8 => ?_)
            have hp := ho47.push (ho7.mono hE4.size) (fun b hb => by have := (ho7.lt b hb).1; omega) ho8 hg8 hn8
            rw [← acL_snoc hlt] at hp
            refine RL.y rfl (y_asg (by conv => lhs; whnf)) ?_
            refine RL.nil ?_
            refine Fin.blockNormal ?_
            refine Fin.next ?_
            refine CW.region ?_
            refine RL.y rfl (y_add rfl rfl (IntWalk.i64_in _ (by omega))) ?_
            refine RL.y rfl (y_mov (v := .int _ _) rfl) ?_
            refine RL.nil ?_
            refine Fin.le ?_
            exact ⟨rs.length - (k + 1), by omega, k + 1, v8, _, _, rfl, hlt, ⟨rfl, rfl, rfl, rfl, trivial⟩, hp, hE47.grown hg8 (fun b hb => (ho47.1.lt b hb).1)⟩
      · with_reducible first | (replace hck := deNF hck) | (replace hck := of_decide_eq_true hck) | (replace hck := of_decide_eq_false hck) | (replace hck := deNT hck) | (replace hck := deNN hck) | (replace hck := bnT hck) | (replace hck := bnF hck) | skip
        obtain rfl : k = rs.length := by omega
        rw [List.take_length] at ho4
        refine CW.exit ?_
        refine Fin.thenExit ?_
        refine Fin.thenExit ?_
        refine Fin.blockHit ?_
        refine Fin.next ?_
        refine CW.seq ?_
        refine CW.region ?_
        refine RL.y rfl (y_mov (by conv => lhs; whnf)) ?_
        refine RL.y rfl (y_asg (by conv => lhs; whnf)) ?_
        refine RL.y rfl (y_asg rfl) ?_
        refine RL.nil ?_
        refine Fin.next ?_
        refine CW.ret ?_
        refine Fin.ret2 rfl (by conv => lhs; whnf) (by conv => lhs; whnf) ?_
        exact ⟨_, rfl, _, by unfold plC; rw [if_pos hpl], by unfold acV; rw [if_pos hpl]; exact OwN.wide ⟨cv, ho4⟩ hE12.size ho4.1.2.1 (Nat.le_refl _), hE04⟩

theorem l10Whole_any {w : World} {b v : Value} {ps : List Int} {ds : List Bool} {ns : List Int} {g : Int} (hb : RdB w b ps ds) (hv : SI w v ns) (hbl : bld ps ds) :
    Does Try.prog 94 #[b, v, .int .i64 g] w (fun r w' => r = .bool (decide (whole ps ds ns g)) ∧ Ext w w') := by
  have hb0 := hb
  obtain ⟨vp, vd, rfl, _⟩ := hb
  have h24 := du_len hbl g
  refine enter Try.func94 rfl 29 Try.ntmps94 rfl (by kernel_rfl) ?_
  refine CW.seq ?_
  refine CW.region ?_
  refine RL.box (cs := [vp, vd]) rfl rfl rfl (fun w1 hV hE1 => ?_)
  refine RL.y rfl (y_asg rfl) ?_
  refine RL.nil ?_
  refine Fin.next ?_
  refine CW.seq ?_
  refine CW.region ?_
  refine RL.y rfl (y_loads ag31 rfl (eqw (hV)) rfl) ?_
  refine RL.y rfl (y_mov (v := .int _ _) rfl) ?_
  refine RL.call rfl (l09Doors_any (hb0.ext hE1) hbl) ?_
  rintro vl w2 ⟨hol, hE2⟩
  have hE12 := hE1.trans hE2
  refine RL.y rfl (y_asg (by conv => lhs; whnf)) ?_
  refine RL.nil ?_
  refine Fin.next ?_
  refine CW.seq ?_
  refine CW.seq ?_
  refine CW.region ?_
  refine RL.y rfl (y_asg rfl) ?_
  refine RL.nil ?_
  refine Fin.next ?_
  refine CW.block ?_
  refine CW.loop (fun m E w' => ∃ i : Nat, m = (doorsU ps ds g).length - i ∧ i ≤ (doorsU ps ds g).length ∧ agrees E [(1, v), (3, .pointer (some ⟨w.heap.size, 0, none⟩)), (7, vl), (8, .int .i64 (i : Int))] ∧ whTo ps ns (doorsU ps ds g) i ∧ Ext w2 w') _ ⟨0, rfl, Nat.zero_le _, ⟨rfl, rfl, rfl, rfl, trivial⟩, (by unfold whTo; simp), Ext.refl w2⟩ ?_
  · rintro m E w3 ⟨i, rfl, hki, hagi, hwh, hE3⟩
    refine CW.re _ hagi rfl ?_
    clear hagi
    refine CW.seq ?_
    refine CW.seq ?_
    refine CW.region ?_
    refine RL.y rfl (y_mov (v := .int _ _) rfl) ?_
    refine RL.y rfl (y_mov (by conv => lhs; whnf)) ?_
    refine RL.y rfl (y_len sT22 (hol.ext hE3).sv (ints_len _) rfl) ?_
    refine RL.y rfl (y_lt rfl rfl) ?_
    refine RL.nil ?_
    refine Fin.next ?_
    refine CW.cond rfl rfl (fun hci => ?_) (fun hci => ?_)
    · with_reducible first | (replace hci := deNF hci) | (replace hci := of_decide_eq_true hci) | (replace hci := of_decide_eq_false hci) | (replace hci := deNT hci) | (replace hci := deNN hci) | (replace hci := bnT hci) | (replace hci := bnF hci) | skip
      have hlti : i < (doorsU ps ds g).length := by omega
      have hdr := mem_idxs_door (List.getElem_mem hlti)
      have hE13 := hE12.trans hE3
      refine CW.skip ?_
      refine Fin.next ?_
      refine CW.seq ?_
      refine CW.block ?_
      refine CW.seq ?_
      refine CW.quietE mixed (by kernel_rfl) ?_
      refine QL.y rfl (y_loads ag31 rfl (fun _ hC => ((hV.ext hE2).ext hE3).ext hC) rfl) ?_
      refine QL.y rfl (y_mov (by conv => lhs; whnf)) ?_
      refine QL.y rfl (y_mov (by conv => lhs; whnf)) ?_
      refine QL.y rfl (y_mov (v := .int _ _) rfl) ?_
      refine QL.y rfl (y_ixa sT22 (fun _ hC => ((hol.ext hE3).sv).ext hC) (k := i) (ints_lt hlti) rfl rfl) ?_
      refine QL.y rfl (y_load sc2 (fun _ hC => ((hol.ext hE3).sv).ext hC) (ints_at hlti) rfl) ?_
      refine QL.call rfl (fun _ hC => qc hC (l10May_any ((hb0.ext hE13).ext hC) ((hv.ext hE13).ext hC) (bld_tree hbl) hdr.2 hbl.1.1.2)) ?_
      refine QL.y rfl (y_not rfl) ?_
      refine QL.nil (fun w4 hE4 => ?_)
      refine Fin.next ?_
      refine CW.cond rfl rfl (fun hm => ?_) (fun hm => ?_)
      · with_reducible first | (replace hm := deNF hm) | (replace hm := of_decide_eq_true hm) | (replace hm := of_decide_eq_false hm) | (replace hm := deNT hm) | (replace hm := deNN hm) | (replace hm := bnT hm) | (replace hm := bnF hm) | skip
        refine CW.seq ?_
        refine CW.region ?_
        refine RL.y rfl (y_asg rfl) ?_
        refine RL.nil ?_
        refine Fin.next ?_
        refine CW.ret ?_
        refine Fin.blockRet ?_
        refine Fin.thenRet ?_
        refine Fin.thenRet ?_
        refine Fin.blockRet ?_
        refine Fin.thenRet ?_
        refine Fin.ret1 rfl (by conv => lhs; whnf) ?_
        exact ⟨_, rfl, bF (fun h => hm (h.2 _ (List.getElem_mem hlti))), hE13.trans hE4⟩
      · with_reducible first | (replace hm := deNF hm) | (replace hm := of_decide_eq_true hm) | (replace hm := of_decide_eq_false hm) | (replace hm := deNT hm) | (replace hm := deNN hm) | (replace hm := bnT hm) | (replace hm := bnF hm) | skip
        refine CW.skip ?_
        refine Fin.blockNormal ?_
        refine Fin.next ?_
        refine CW.region ?_
        refine RL.y rfl (y_mov (v := .int _ _) rfl) ?_
        refine RL.y rfl (y_add rfl rfl (IntWalk.i64_in _ (by omega))) ?_
        refine RL.y rfl (y_asg (v := .int _ _) rfl) ?_
        refine RL.nil ?_
        refine Fin.le ?_
        exact ⟨(doorsU ps ds g).length - (i + 1), by omega, i + 1, rfl, hlti, ⟨rfl, rfl, rfl, rfl, trivial⟩, (fun d hd => by rw [List.take_succ_eq_append_getElem hlti, List.mem_append, List.mem_singleton] at hd; rcases hd with hd | rfl; exact hwh d hd; exact hm), hE3.trans hE4⟩
    · with_reducible first | (replace hci := deNF hci) | (replace hci := of_decide_eq_true hci) | (replace hci := of_decide_eq_false hci) | (replace hci := deNT hci) | (replace hci := deNN hci) | (replace hci := bnT hci) | (replace hci := bnF hci) | skip
      obtain rfl : (doorsU ps ds g).length = i := by omega
      refine CW.exit ?_
      refine Fin.thenExit ?_
      refine Fin.thenExit ?_
      refine Fin.blockHit ?_
      refine Fin.next ?_
      refine CW.seq ?_
      refine CW.region ?_
      refine RL.y rfl (y_mov (by conv => lhs; whnf)) ?_
      refine RL.y rfl (y_len sT22 (hol.ext hE3).sv (ints_len _) rfl) ?_
      refine RL.y rfl (y_gt rfl rfl) ?_
      refine RL.y rfl (y_asg (v := .bool _) rfl) ?_
      refine RL.nil ?_
      refine Fin.next ?_
      refine CW.ret ?_
      refine Fin.ret1 rfl (by conv => lhs; whnf) ?_
      exact ⟨_, rfl, congrArg Value.bool (whTo_all hwh), hE12.trans hE3⟩

theorem specLeastRights_any {w : World} {v : Value} {ps : List Int} {ds : List Bool} {rs : List (List Int)} {k : Int} (hp : RdP w v ps ds rs) :
    Does Try.prog 41 #[v, .int .i64 k] w (fun r w' => ∃ v1, r = .tuple #[v1, .int .i64 (pkC ps ds rs k)] ∧ OV w' w.heap.size 2 v1 (ints (lrV ps ds rs k)) ∧ Ext w w') := by
  have hp0 := hp
  obtain ⟨vp, vd, vr, rfl, hb, hr⟩ := hp
  obtain ⟨cs, hc⟩ := hr
  obtain ⟨hpv, hdv⟩ : SI w vp ps ∧ SB w vd ds := by obtain ⟨a, b, e, h1, h2⟩ := hb; obtain ⟨rfl, rfl⟩ : vp = a ∧ vd = b := (by simpa using e); exact ⟨h1, h2⟩
  refine enter Try.func41 rfl 58 Try.ntmps41 rfl (by kernel_rfl) ?_
  refine CW.seq ?_
  refine CW.region ?_
  refine RL.box (cs := [vp, vd, vr]) rfl rfl rfl (fun w1 hV hE1 => ?_)
  refine RL.y rfl (y_asg rfl) ?_
  refine RL.y rfl (y_asg rfl) ?_
  refine RL.nil ?_
  refine Fin.next ?_
  refine CW.seq ?_
  refine CW.region ?_
  refine RL.y rfl (y_loads ag33 rfl (eqw (hV)) rfl) ?_
  refine RL.y rfl (y_mov (v := .int _ _) rfl) ?_
  refine RL.call rfl (l10Code_any (hp0.ext hE1)) ?_
  rintro r w2 ⟨rfl, hE2⟩
  have hE12 := hE1.trans hE2
  refine RL.y rfl (y_asg (v := .int _ _) rfl) ?_
  refine RL.nil ?_
  refine Fin.next ?_
  refine CW.seq ?_
  refine CW.seq ?_
  refine CW.region ?_
  refine RL.y rfl (y_mov (v := .int _ _) rfl) ?_
  refine RL.y rfl (y_ne rfl rfl) ?_
  refine RL.nil ?_
  refine Fin.next ?_
  refine CW.cond rfl rfl (fun h1 => ?_) (fun h1 => ?_)
  · with_reducible first | (replace h1 := deNF h1) | (replace h1 := of_decide_eq_true h1) | (replace h1 := of_decide_eq_false h1) | (replace h1 := deNT h1) | (replace h1 := deNN h1) | (replace h1 := bnT h1) | (replace h1 := bnF h1) | skip
    refine CW.seq ?_
    refine CW.region ?_
    refine RL.y rfl (y_mov (v := .int _ _) rfl) ?_
    refine RL.y rfl (y_asg rfl) ?_
    refine RL.y rfl (y_asg (v := .int _ _) rfl) ?_
    refine RL.nil ?_
    refine Fin.next ?_
    refine CW.ret ?_
    refine Fin.thenRet ?_
    refine Fin.ret2 rfl (by conv => lhs; whnf) (by conv => lhs; whnf) ?_
    exact ⟨_, rfl, _, rfl, by unfold lrV; rw [if_neg h1]; exact OV.nil _ _ _, hE12⟩
  · with_reducible first | (replace h1 := deNF h1) | (replace h1 := of_decide_eq_true h1) | (replace h1 := of_decide_eq_false h1) | (replace h1 := deNT h1) | (replace h1 := deNN h1) | (replace h1 := bnT h1) | (replace h1 := bnF h1) | skip
    obtain ⟨hpl, hk⟩ := pkC_zero.1 h1
    obtain ⟨hkl, hrow⟩ := row_at hk
    have hk2 := hk.2
    have h24 := hpl.1.1.1
    have hcr := hc.row hkl
    refine CW.skip ?_
    refine Fin.next ?_
    refine CW.seq ?_
    refine CW.any (Ext _) [7, 8] mixed rfl (Ext.drew _) ?_
    refine AL.y 0 rfl rfl (by kernel_rfl) (by kernel_rfl) (by kernel_rfl) rfl (y_fa fa33_0 rfl rfl) ?_
    refine AL.y 1 rfl rfl (by kernel_rfl) (by kernel_rfl) (by kernel_rfl) rfl (y_loadp (ds := [vp, vd]) ag31 (fun _ hC => (hV.ext hE2).ext hC) rfl rfl rfl) ?_
    refine AL.y 2 rfl rfl (by kernel_rfl) (by kernel_rfl) (by kernel_rfl) rfl (y_fa fa33_1 rfl rfl) ?_
    refine AL.y 3 rfl rfl (by kernel_rfl) (by kernel_rfl) (by kernel_rfl) rfl (y_loadv sc26 (fun _ hC => (hV.ext hE2).ext hC) rfl rfl) ?_
    refine AL.y 4 rfl rfl (by kernel_rfl) (by kernel_rfl) (by kernel_rfl) rfl (y_mov (v := .int _ _) rfl) ?_
    refine AL.y 5 rfl rfl (by kernel_rfl) (by kernel_rfl) (by kernel_rfl) rfl (y_ixi sT26 (fun _ hC => (hc.1.ext hE12).ext hC) hk.1 (by rw [hc.2.1]; omega) rfl rfl) ?_
    refine AL.y 6 rfl rfl (by kernel_rfl) (by kernel_rfl) (by kernel_rfl) rfl (y_load sc22 (fun _ hC => (hc.1.ext hE12).ext hC) (hc.at hkl) rfl) ?_
    refine AL.one (i := 7) (by kernel_rfl) rfl rfl ?_ 
    intro hr hJ
    refine RL.alloc rfl ze31 (fun w3 hW3 hE3 => ?_)
    have hE23 : Ext w2 w3 := (Ext.drew _).trans hE3
    refine RL.nil ?_
    refine Fin.al hr hJ (.inr hE23) ?_
    refine AL.one (i := 8) (by kernel_rfl) rfl rfl ?_ 
    intro hr hJ
    refine RL.stores ag31 (hW3) rfl rfl rfl rfl ((by simp [slice_one hpv, slice_one hdv])) (fun w4 hW4 hg4 => ?_)
    have hE24 : Ext w2 w4 := hE23.grown hg4 (fun b hb => by simp only [Option.some.injEq] at hb; subst hb; exact Nat.le_refl _)
    refine RL.nil ?_
    refine Fin.al hr hJ (.inr hE24) ?_
    refine AL.y 9 rfl rfl (by kernel_rfl) (by kernel_rfl) (by kernel_rfl) rfl (y_asg (by conv => lhs; whnf)) ?_
    refine AL.nil (by kernel_rfl) ?_
    have hE14 := hE12.trans hE24
    refine Fin.next ?_
    refine CW.seq ?_
    refine CW.region ?_
    refine RL.lit0 rfl sT22 (fun vo w5 ho5 hE5 hb5 => ?_)
    refine RL.y rfl (y_asg (by conv => lhs; whnf)) ?_
    refine RL.nil ?_
    refine Fin.next ?_
    refine CW.seq ?_
    refine CW.seq ?_
    refine CW.region ?_
    refine RL.y rfl (y_asg rfl) ?_
    refine RL.nil ?_
    refine Fin.next ?_
    refine CW.block ?_
    refine CW.loop (fun m E w' => ∃ (i : Nat) (vo : Value), m = ps.length - i ∧ i ≤ ps.length ∧ agrees E [(7, .pointer (some ⟨w2.heap.size, 0, none⟩)), (8, cs.getD k.toNat undef), (9, vo), (10, .int .i64 (i : Int))] ∧ OV w' w4.heap.size 2 vo (ints (idxs (lrP ps ds rs[k.toNat]) i)) ∧ Ext w4 w') _ (⟨0, vo, rfl, Nat.zero_le _, ⟨rfl, rfl, rfl, rfl, trivial⟩, ho5, hE5⟩) ?_
    · rintro m E w6 ⟨i, vo, rfl, hi, hag, ho6, hE6⟩
      refine CW.re _ hag rfl ?_
      have hle := idxs_le (lrP ps ds rs[k.toNat]) i
      have hE16 := hE14.trans hE6
      refine CW.seq ?_
      refine CW.seq ?_
      refine CW.region ?_
      refine RL.y rfl (y_mov (v := .int _ _) rfl) ?_
      refine RL.y rfl (y_fa fa31_0 rfl rfl) ?_
      refine RL.y rfl (y_loadv sc22 (eqw (hW4.ext hE6)) rfl rfl) ?_
      refine RL.y rfl (y_len sT22 (hpv.ext hE16) (ints_len _) rfl) ?_
      refine RL.y rfl (y_lt rfl rfl) ?_
      refine RL.nil ?_
      refine Fin.next ?_
      refine CW.cond rfl rfl (fun hci => ?_) (fun hci => ?_)
      · with_reducible first | (replace hci := deNF hci) | (replace hci := of_decide_eq_true hci) | (replace hci := of_decide_eq_false hci) | (replace hci := deNT hci) | (replace hci := deNN hci) | (replace hci := bnT hci) | (replace hci := bnF hci) | skip
        have hlt : i < ps.length := by omega
        have hpi : par ps i = ps[i] := getD_lt hlt
        refine CW.skip ?_
        refine Fin.next ?_
        refine CW.seq ?_
        refine CW.block ?_
        refine CW.seq ?_
        refine CW.region ?_
        refine RL.y rfl (y_fa fa31_0 rfl rfl) ?_
        refine RL.y rfl (y_loadv sc22 (eqw (hW4.ext hE6)) rfl rfl) ?_
        refine RL.y rfl (y_mov (v := .int _ _) rfl) ?_
        refine RL.y rfl (y_ixa sT22 (eqw (hpv.ext hE16)) (k := i) (ints_lt hlt) rfl rfl) ?_
        refine RL.y rfl (y_load sc2 (eqw (hpv.ext hE16)) (ints_at hlt) rfl) ?_
        refine RL.y rfl (y_asg (v := .int _ _) rfl) ?_
        refine RL.nil ?_
        refine Fin.next ?_
        refine CW.seq ?_
        refine CW.region ?_
        refine RL.y rfl (y_loads ag31 rfl (eqw (hW4.ext hE6)) rfl) ?_
        refine RL.y rfl (y_mov (by conv => lhs; whnf)) ?_
        refine RL.y rfl (y_mov (v := .int _ _) rfl) ?_
        refine RL.call rfl (l10Whole_any (g := (i : Int)) (hb.ext hE16) (hcr.ext hE16) hpl.1) ?_
        rintro r w7 ⟨rfl, hE7⟩
        have hE67 := hE6.trans hE7
        have hE17 := hE16.trans hE7
        refine RL.y rfl (y_mov (v := .bool _) rfl) ?_
        refine RL.split (t := 42) rfl rfl (fun hw1 => ?_) (fun hw1 => ?_)
        · with_reducible first | (replace hw1 := deNF hw1) | (replace hw1 := of_decide_eq_true hw1) | (replace hw1 := of_decide_eq_false hw1) | (replace hw1 := deNT hw1) | (replace hw1 := deNN hw1) | (replace hw1 := bnT hw1) | (replace hw1 := bnF hw1) | skip
          refine RL.take (t := 42) rfl rfl rfl ?_
          refine RL.y rfl (y_mov (v := .int _ _) rfl) ?_
          refine RL.take (t := 42) rfl rfl rfl ?_
          refine RL.y rfl (y_lt rfl rfl) ?_
          refine RL.take (t := 42) rfl rfl rfl ?_
          refine RL.y rfl (y_mov (v := .bool _) rfl) ?_
          refine RL.split (t := 45) rfl rfl (fun hneg => ?_) (fun hneg => ?_)
          · with_reducible first | (replace hneg := deNF hneg) | (replace hneg := of_decide_eq_true hneg) | (replace hneg := of_decide_eq_false hneg) | (replace hneg := deNT hneg) | (replace hneg := deNN hneg) | (replace hneg := bnT hneg) | (replace hneg := bnF hneg) | skip
            have hyes : lrP ps ds rs[k.toNat] i = true := by unfold lrP; exact decide_eq_true ⟨hw1, .inl (by rw [hpi]; exact hneg)⟩
            refine RL.pass (t := 45) rfl rfl rfl rfl ?_
            refine RL.pass (t := 45) rfl rfl rfl rfl ?_
            refine RL.pass (t := 45) rfl rfl rfl rfl ?_
            refine RL.pass (t := 45) rfl rfl rfl rfl ?_
            refine RL.pass (t := 45) rfl rfl rfl rfl ?_
            refine RL.take (t := 42) rfl rfl rfl ?_
            refine RL.y rfl (y_pickT (v := .bool _) rfl rfl) ?_
            refine RL.y rfl (y_pickT (v := .bool _) rfl rfl) ?_
            refine RL.nil ?_
            refine Fin.next ?_
            refine CW.condT rfl rfl ?_
            refine CW.region ?_
            refine RL.y rfl (y_mov (by conv => lhs; whnf)) ?_
            refine RL.y rfl (y_mov (v := .int _ _) rfl) ?_
            refine RL.app1i rfl rfl sT22 (by omega) (ho6.ext hE7) (by omega) hE67.size rfl (fun _ => rfl) (fun u v8 w8 ho8 hg8 hn8 => ?_)
            refine RL.y rfl (y_asg (by conv => lhs; whnf)) ?_
            refine RL.nil ?_
            refine Fin.blockNormal ?_
            refine Fin.next ?_
            refine CW.region ?_
            refine RL.y rfl (y_mov (v := .int _ _) rfl) ?_
            refine RL.y rfl (y_add rfl rfl (IntWalk.i64_in _ (by omega))) ?_
            refine RL.y rfl (y_asg (v := .int _ _) rfl) ?_
            refine RL.nil ?_
            refine Fin.le ?_
            exact ⟨ps.length - (i + 1), by omega, i + 1, v8, rfl, hlt, ⟨rfl, rfl, rfl, rfl, trivial⟩, by rw [idxs_yes hyes]; exact ho8, hE67.grown hg8 (fun b hb => (ho6.lt b hb).1)⟩
          · with_reducible first | (replace hneg := deNF hneg) | (replace hneg := of_decide_eq_true hneg) | (replace hneg := of_decide_eq_false hneg) | (replace hneg := deNT hneg) | (replace hneg := deNN hneg) | (replace hneg := bnT hneg) | (replace hneg := bnF hneg) | skip
            refine RL.take (t := 45) rfl rfl rfl ?_
            refine RL.y rfl (y_loads ag31 rfl (eqw (hW4.ext hE67)) rfl) ?_
            refine RL.take (t := 45) rfl rfl rfl ?_
            refine RL.y rfl (y_mov (by conv => lhs; whnf)) ?_
            refine RL.take (t := 45) rfl rfl rfl ?_
            refine RL.y rfl (y_mov (v := .int _ _) rfl) ?_
            refine RL.take (t := 45) rfl rfl rfl ?_
            refine RL.call rfl (l10Whole_any (g := ps[i]) (hb.ext hE17) (hcr.ext hE17) hpl.1) ?_
            rintro r w8 ⟨rfl, hE8⟩
            have hE68 := hE67.trans hE8
            refine RL.take (t := 45) rfl rfl rfl ?_
            refine RL.y rfl (y_not rfl) ?_
            refine RL.take (t := 42) rfl rfl rfl ?_
            refine RL.y rfl (y_pickF (v := .bool _) rfl rfl) ?_
            refine RL.y rfl (y_pickT (v := .bool _) rfl rfl) ?_
            refine RL.nil ?_
            refine Fin.next ?_
            refine CW.cond rfl rfl (fun hw2 => ?_) (fun hw2 => ?_)
            · with_reducible first | (replace hw2 := deNF hw2) | (replace hw2 := of_decide_eq_true hw2) | (replace hw2 := of_decide_eq_false hw2) | (replace hw2 := deNT hw2) | (replace hw2 := deNN hw2) | (replace hw2 := bnT hw2) | (replace hw2 := bnF hw2) | skip
              have hyes : lrP ps ds rs[k.toNat] i = true := by unfold lrP; exact decide_eq_true ⟨hw1, .inr (by rw [hpi]; exact hw2)⟩
              refine CW.region ?_
              refine RL.y rfl (y_mov (by conv => lhs; whnf)) ?_
              refine RL.y rfl (y_mov (v := .int _ _) rfl) ?_
              refine RL.app1i rfl rfl sT22 (by omega) ((ho6.ext hE7).ext hE8) (by omega) hE68.size rfl (fun _ => rfl) (fun u v9 w9 ho9 hg9 hn9 => ?_)
              refine RL.y rfl (y_asg (by conv => lhs; whnf)) ?_
              refine RL.nil ?_
              refine Fin.blockNormal ?_
              refine Fin.next ?_
              refine CW.region ?_
              refine RL.y rfl (y_mov (v := .int _ _) rfl) ?_
              refine RL.y rfl (y_add rfl rfl (IntWalk.i64_in _ (by omega))) ?_
              refine RL.y rfl (y_asg (v := .int _ _) rfl) ?_
              refine RL.nil ?_
              refine Fin.le ?_
              exact ⟨ps.length - (i + 1), by omega, i + 1, v9, rfl, hlt, ⟨rfl, rfl, rfl, rfl, trivial⟩, by rw [idxs_yes hyes]; exact ho9, hE68.grown hg9 (fun b hb => (ho6.lt b hb).1)⟩
            · with_reducible first | (replace hw2 := deNF hw2) | (replace hw2 := of_decide_eq_true hw2) | (replace hw2 := of_decide_eq_false hw2) | (replace hw2 := deNT hw2) | (replace hw2 := deNN hw2) | (replace hw2 := bnT hw2) | (replace hw2 := bnF hw2) | skip
              have hno : lrP ps ds rs[k.toNat] i = false := by unfold lrP; exact decide_eq_false (fun h => h.2.elim (fun h2 => hneg (by rw [← hpi]; exact h2)) (fun h2 => h2 (by rw [hpi]; exact hw2)))
              refine CW.skip ?_
              refine Fin.blockNormal ?_
              refine Fin.next ?_
              refine CW.region ?_
              refine RL.y rfl (y_mov (v := .int _ _) rfl) ?_
              refine RL.y rfl (y_add rfl rfl (IntWalk.i64_in _ (by omega))) ?_
              refine RL.y rfl (y_asg (v := .int _ _) rfl) ?_
              refine RL.nil ?_
              refine Fin.le ?_
              exact ⟨ps.length - (i + 1), by omega, i + 1, vo, rfl, hlt, ⟨rfl, rfl, rfl, rfl, trivial⟩, by rw [idxs_no hno]; exact (ho6.ext hE7).ext hE8, hE68⟩
        · with_reducible first | (replace hw1 := deNF hw1) | (replace hw1 := of_decide_eq_true hw1) | (replace hw1 := of_decide_eq_false hw1) | (replace hw1 := deNT hw1) | (replace hw1 := deNN hw1) | (replace hw1 := bnT hw1) | (replace hw1 := bnF hw1) | skip
          have hno : lrP ps ds rs[k.toNat] i = false := by unfold lrP; exact decide_eq_false (fun h => hw1 h.1)
          refine RL.pass (t := 42) rfl rfl rfl rfl ?_
          refine RL.pass (t := 42) rfl rfl rfl rfl ?_
          refine RL.pass (t := 42) rfl rfl rfl rfl ?_
          refine RL.pass2 (t := 45) rfl rfl rfl rfl ?_
          refine RL.pass2 (t := 45) rfl rfl rfl rfl ?_
          refine RL.pass2 (t := 45) rfl rfl rfl rfl ?_
          refine RL.pass2 (t := 45) rfl rfl rfl rfl ?_
          refine RL.pass2 (t := 45) rfl rfl rfl rfl ?_
          refine RL.pass (t := 42) rfl rfl rfl rfl ?_
          refine RL.y rfl (y_pickF (v := .bool _) rfl rfl) ?_
          refine RL.nil ?_
          refine Fin.next ?_
          refine CW.condF rfl rfl ?_
          refine CW.skip ?_
          refine Fin.blockNormal ?_
          refine Fin.next ?_
          refine CW.region ?_
          refine RL.y rfl (y_mov (v := .int _ _) rfl) ?_
          refine RL.y rfl (y_add rfl rfl (IntWalk.i64_in _ (by omega))) ?_
          refine RL.y rfl (y_asg (v := .int _ _) rfl) ?_
          refine RL.nil ?_
          refine Fin.le ?_
          exact ⟨ps.length - (i + 1), by omega, i + 1, vo, rfl, hlt, ⟨rfl, rfl, rfl, rfl, trivial⟩, by rw [idxs_no hno]; exact ho6.ext hE7, hE67⟩
      · with_reducible first | (replace hci := deNF hci) | (replace hci := of_decide_eq_true hci) | (replace hci := of_decide_eq_false hci) | (replace hci := deNT hci) | (replace hci := deNN hci) | (replace hci := bnT hci) | (replace hci := bnF hci) | skip
        obtain rfl : i = ps.length := by omega
        refine CW.exit ?_
        refine Fin.thenExit ?_
        refine Fin.thenExit ?_
        refine Fin.blockHit ?_
        refine Fin.next ?_
        refine CW.seq ?_
        refine CW.region ?_
        refine RL.y rfl (y_mov (by conv => lhs; whnf)) ?_
        refine RL.y rfl (y_asg (by conv => lhs; whnf)) ?_
        refine RL.y rfl (y_asg rfl) ?_
        refine RL.nil ?_
        refine Fin.next ?_
        refine CW.ret ?_
        refine Fin.ret2 rfl (by conv => lhs; whnf) (by conv => lhs; whnf) ?_
        exact ⟨_, rfl, _, by rw [h1], by unfold lrV; rw [if_pos h1, hrow]; exact ho6.mono hE14.size, hE16⟩

theorem leastRights11_any {w : World} {vp vd vr : Value} {b c : Nat} {ps : List Int} {ds : List Bool} {rs : List (List Int)} {k d : Int} (hV : VR w b [vp, vd, vr]) (hW : VR w c [.int .i64 k]) (hp : RdP w (.agg #[vp, vd, vr]) ps ds rs) (hpl : pln ps ds rs) (hk : isKey rs k) (hd : d < ps.length) :
    Does Try.prog 96 #[.int .i64 d, .pointer (some ⟨b, 0, none⟩), .pointer (some ⟨c, 0, none⟩)] w (fun r w' => r = .bool (!decide (may ps (row rs k) d)) ∧ Ext w w') := by
  refine enter Try.func96 rfl 10 Try.ntmps96 rfl (by kernel_rfl) ?_
  refine CW.seq ?_
  refine CW.region ?_
  refine RL.y rfl (y_asg rfl) ?_
  refine RL.nil ?_
  refine Fin.next ?_
  refine CW.seq ?_
  refine CW.region ?_
  refine RL.y rfl (y_loads ag33 rfl (eqw (hV)) rfl) ?_
  refine RL.y rfl (y_loadv sc2 (eqw (hW)) rfl rfl) ?_
  refine RL.y rfl (y_mov (v := .int _ _) rfl) ?_
  refine RL.call rfl (mayEnter_any hp hpl hk hd) ?_
  rintro r w1 ⟨rfl, hE1⟩
  refine RL.y rfl (y_not rfl) ?_
  refine RL.y rfl (y_asg (v := .bool _) rfl) ?_
  refine RL.nil ?_
  refine Fin.next ?_
  refine CW.ret ?_
  refine Fin.ret1 rfl (by conv => lhs; whnf) ?_
  exact ⟨_, rfl, rfl, hE1⟩

theorem leastRights1_any {w : World} {vp vd vr : Value} {b c : Nat} {ps : List Int} {ds : List Bool} {rs : List (List Int)} {k g : Int} (hV : VR w b [vp, vd, vr]) (hW : VR w c [.int .i64 k]) (hp : RdP w (.agg #[vp, vd, vr]) ps ds rs) (hb : RdB w (.agg #[vp, vd]) ps ds) (hpl : pln ps ds rs) (hk : isKey rs k) (hg : 0 ≤ g) :
    Does Try.prog 95 #[.int .i64 g, .pointer (some ⟨b, 0, none⟩), .pointer (some ⟨c, 0, none⟩)] w (fun r w' => r = .bool (decide (whole ps ds (row rs k) g)) ∧ Ext w w') := by
  refine enter Try.func95 rfl 19 Try.ntmps95 rfl (by kernel_rfl) ?_
  refine CW.seq ?_
  refine CW.region ?_
  refine RL.y rfl (y_asg rfl) ?_
  refine RL.nil ?_
  refine Fin.next ?_
  refine CW.seq ?_
  refine CW.region ?_
  refine RL.y rfl (y_fa fa33_0 rfl rfl) ?_
  refine RL.y rfl (y_loadp (ds := [vp, vd]) ag31 (eqw (hV)) rfl rfl rfl) ?_
  refine RL.y rfl (y_mov (v := .int _ _) rfl) ?_
  refine RL.call rfl (doorsUnder_any hb hpl.1 hg) ?_
  rintro vl w1 ⟨hol, hE1⟩
  refine RL.y rfl (y_asg (by conv => lhs; whnf)) ?_
  refine RL.nil ?_
  refine Fin.next ?_
  refine CW.seq ?_
  refine CW.region ?_
  refine RL.y rfl (y_mov (by conv => lhs; whnf)) ?_
  refine RL.y rfl (y_len sT22 hol.sv (ints_len _) rfl) ?_
  refine RL.y rfl (y_gt rfl rfl) ?_
  refine RL.y rfl (y_mov (v := .bool _) rfl) ?_
  refine RL.split (t := 13) rfl rfl (fun h1 => ?_) (fun h1 => ?_)
  · with_reducible first | (replace h1 := deNF h1) | (replace h1 := of_decide_eq_true h1) | (replace h1 := of_decide_eq_false h1) | (replace h1 := deNT h1) | (replace h1 := deNN h1) | (replace h1 := bnT h1) | (replace h1 := bnF h1) | skip
    refine RL.take (t := 13) rfl rfl rfl ?_
    refine RL.y rfl (y_mov (by conv => lhs; whnf)) ?_
    refine RL.take (t := 13) rfl rfl rfl ?_
    refine RL.y rfl (y_fnl rfl) ?_
    refine RL.take (t := 13) rfl rfl rfl ?_
    refine RL.call rfl (ContainsFuncI_any (fun d => !decide (may ps (row rs k) d)) hol.sv (fun w' d h hd => leastRights11_any ((hV.ext hE1).ext h) ((hW.ext hE1).ext h) ((hp.ext hE1).ext h) hpl hk (mem_idxs_door hd).2)) ?_
    rintro r w2 ⟨rfl, hE2⟩
    refine RL.take (t := 13) rfl rfl rfl ?_
    refine RL.y rfl (y_not rfl) ?_
    refine RL.y rfl (y_pickT (v := .bool _) rfl rfl) ?_
    refine RL.y rfl (y_asg (v := .bool _) rfl) ?_
    refine RL.nil ?_
    refine Fin.next ?_
    refine CW.ret ?_
    refine Fin.ret1 rfl (by conv => lhs; whnf) ?_
    exact ⟨_, rfl, congrArg Value.bool (by rw [wh_any]; exact decide_eq_decide.2 ⟨fun h => ⟨by omega, h⟩, fun h => h.2⟩), hE1.trans hE2⟩
  · with_reducible first | (replace h1 := deNF h1) | (replace h1 := of_decide_eq_true h1) | (replace h1 := of_decide_eq_false h1) | (replace h1 := deNT h1) | (replace h1 := deNN h1) | (replace h1 := bnT h1) | (replace h1 := bnF h1) | skip
    refine RL.pass (t := 13) rfl rfl rfl rfl ?_
    refine RL.pass (t := 13) rfl rfl rfl rfl ?_
    refine RL.pass (t := 13) rfl rfl rfl rfl ?_
    refine RL.pass (t := 13) rfl rfl rfl rfl ?_
    refine RL.y rfl (y_pickF (v := .bool _) rfl rfl) ?_
    refine RL.y rfl (y_asg (v := .bool _) rfl) ?_
    refine RL.nil ?_
    refine Fin.next ?_
    refine CW.ret ?_
    refine Fin.ret1 rfl (by conv => lhs; whnf) ?_
    exact ⟨_, rfl, bF (fun h => by have := h.1; omega), hE1⟩

theorem implLeastRights_any {w : World} {v : Value} {ps : List Int} {ds : List Bool} {rs : List (List Int)} {k : Int} (hp : RdP w v ps ds rs) :
    Does Try.prog 42 #[v, .int .i64 k] w (fun r w' => ∃ v1, r = .tuple #[v1, .int .i64 (pkC ps ds rs k)] ∧ OV w' w.heap.size 2 v1 (ints (lrV ps ds rs k)) ∧ Ext w w') := by
  have hp0 := hp
  obtain ⟨vp, vd, vr, rfl, hb, hr⟩ := hp
  obtain ⟨hpv, hdv⟩ : SI w vp ps ∧ SB w vd ds := by obtain ⟨a, b, e, h1, h2⟩ := hb; obtain ⟨rfl, rfl⟩ : vp = a ∧ vd = b := (by simpa using e); exact ⟨h1, h2⟩
  refine enter Try.func42 rfl 49 Try.ntmps42 rfl (by kernel_rfl) ?_
  refine CW.seq ?_
  refine CW.region ?_
  refine RL.box (cs := [vp, vd, vr]) rfl rfl rfl (fun w1 hV1 hE1 => ?_)
  refine RL.box (cs := [.int .i64 k]) rfl rfl rfl (fun w2 hW hE2 => ?_)
  have hE12 := hE1.trans hE2
  have hV := hV1.ext hE2
  refine RL.y rfl (y_asg rfl) ?_
  refine RL.y rfl (y_asg rfl) ?_
  refine RL.nil ?_
  refine Fin.next ?_
  refine CW.seq ?_
  refine CW.seq ?_
  refine CW.tape (Ext _) [5, 4, 3] mixed (by kernel_rfl) (by kernel_rfl) (Ext.drew _) ?_
  refine TL.y rfl rfl (y_loads ag33 rfl (fun _ hC => (hV).ext hC) rfl) ?_
  refine TL.y rfl rfl (y_loadv sc2 (fun _ hC => (hW).ext hC) rfl rfl) ?_
  refine TL.y rfl rfl (y_loads ag33 rfl (fun _ hC => (hV).ext hC) rfl) ?_
  refine TL.op rfl (fun hC => ?_)
  refine RL.call rfl (someDoor_any ((hp0.ext hE12).ext hC)) ?_
  rintro r w3 ⟨i, rfl, hi, hE3⟩
  refine RL.nil ?_
  refine Fin.tl (hC.trans hE3) ?_
  refine TL.op rfl (fun hC => ?_)
  refine RL.call rfl (planCode_any ((hp0.ext hE12).ext hC)) ?_
  rintro r w3 ⟨rfl, hE4⟩
  refine RL.nil ?_
  refine Fin.tl (hC.trans hE4) ?_
  refine TL.yc rfl rfl (y_asg (v := .int _ _) rfl) ?_
  refine TL.nil (fun hC => ?_)
  rw [pcC_key hi]
  have hE13 := hE12.trans hC
  refine Fin.next ?_
  refine CW.seq ?_
  refine CW.region ?_
  refine RL.y rfl (y_mov (v := .int _ _) rfl) ?_
  refine RL.y rfl (y_ne rfl rfl) ?_
  refine RL.nil ?_
  refine Fin.next ?_
  refine CW.cond rfl rfl (fun h1 => ?_) (fun h1 => ?_)
  · with_reducible first | (replace h1 := deNF h1) | (replace h1 := of_decide_eq_true h1) | (replace h1 := of_decide_eq_false h1) | (replace h1 := deNT h1) | (replace h1 := deNN h1) | (replace h1 := bnT h1) | (replace h1 := bnF h1) | skip
    refine CW.seq ?_
    refine CW.region ?_
    refine RL.y rfl (y_mov (v := .int _ _) rfl) ?_
    refine RL.y rfl (y_asg rfl) ?_
    refine RL.y rfl (y_asg (v := .int _ _) rfl) ?_
    refine RL.nil ?_
    refine Fin.next ?_
    refine CW.ret ?_
    refine Fin.thenRet ?_
    refine Fin.ret2 rfl (by conv => lhs; whnf) (by conv => lhs; whnf) ?_
    exact ⟨_, rfl, _, rfl, by unfold lrV; rw [if_neg h1]; exact OV.nil _ _ _, hE13⟩
  · with_reducible first | (replace h1 := deNF h1) | (replace h1 := of_decide_eq_true h1) | (replace h1 := of_decide_eq_false h1) | (replace h1 := deNT h1) | (replace h1 := deNN h1) | (replace h1 := bnT h1) | (replace h1 := bnF h1) | skip
    obtain ⟨hpl, hk⟩ := pkC_zero.1 h1
    have h24 := hpl.1.1.1
    refine CW.skip ?_
    refine Fin.next ?_
    refine CW.seq ?_
    refine CW.region ?_
    refine RL.y rfl (y_fnl rfl) ?_
    refine RL.y rfl (y_asg (by conv => lhs; whnf)) ?_
    refine RL.nil ?_
    refine Fin.next ?_
    refine CW.seq ?_
    refine CW.region ?_
    refine RL.lit0 rfl sT22 (fun vo w5 ho5 hE5 hb5 => ?_)
    have hE25 := hC.trans hE5
    refine RL.y rfl (y_asg (by conv => lhs; whnf)) ?_
    refine RL.nil ?_
    refine Fin.next ?_
    refine CW.seq ?_
    refine CW.seq ?_
    refine CW.region ?_
    refine RL.y rfl (y_fa fa33_0 rfl rfl) ?_
    refine RL.y rfl (y_fa fa31_0 rfl rfl) ?_
    refine RL.y rfl (y_loadv sc22 (eqw (hV.ext hE25)) rfl rfl) ?_
    refine RL.y rfl (y_len sT22 (hpv.ext (hE12.trans hE25)) (ints_len _) rfl) ?_
    refine RL.y rfl (y_mov rfl) ?_
    refine RL.nil ?_
    refine Fin.next ?_
    refine CW.block ?_
    refine CW.loop (fun m E w' => ∃ (i : Nat) (vo : Value), m = ps.length - i ∧ i ≤ ps.length ∧ agrees E [(7, .func (.func 95) #[] [.pointer (some ⟨w.heap.size, 0, none⟩), .pointer (some ⟨w1.heap.size, 0, none⟩)].toArray), (8, vo), (23, vp), (24, .int .i64 ps.length), (25, .int .i64 (i : Int))] ∧ OV w' w2.heap.size 2 vo (ints (idxs (lrP ps ds (row rs k)) i)) ∧ Ext w2 w') _ (⟨0, vo, rfl, Nat.zero_le _, ⟨rfl, rfl, rfl, rfl, rfl, trivial⟩, ho5.mono hC.size, hE25⟩) ?_
    · rintro m E w6 ⟨i, vo, rfl, hi2, hag, ho6, hE6⟩
      refine CW.re _ hag rfl ?_
      have hle := idxs_le (lrP ps ds (row rs k)) i
      have hE16 := hE12.trans hE6
      refine CW.seq ?_
      refine CW.region ?_
      refine RL.y rfl (y_lt rfl rfl) ?_
      refine RL.nil ?_
      refine Fin.next ?_
      refine CW.seq ?_
      refine CW.cond rfl rfl (fun hci => ?_) (fun hci => ?_)
      · with_reducible first | (replace hci := deNF hci) | (replace hci := of_decide_eq_true hci) | (replace hci := of_decide_eq_false hci) | (replace hci := deNT hci) | (replace hci := deNN hci) | (replace hci := bnT hci) | (replace hci := bnF hci) | skip
        have hlt : i < ps.length := by omega
        have hpi : par ps i = ps[i] := getD_lt hlt
        refine CW.skip ?_
        refine Fin.next ?_
        refine CW.seq ?_
        refine CW.block ?_
        refine CW.seq ?_
        refine CW.region ?_
        refine RL.y rfl (y_mov (v := .int _ _) rfl) ?_
        refine RL.y rfl (y_ixa sT22 (eqw (hpv.ext hE16)) (k := i) (ints_lt hlt) rfl rfl) ?_
        refine RL.y rfl (y_load sc2 (eqw (hpv.ext hE16)) (ints_at hlt) rfl) ?_
        refine RL.y rfl (y_asg (v := .int _ _) rfl) ?_
        refine RL.y rfl (y_asg (v := .int _ _) rfl) ?_
        refine RL.nil ?_
        refine Fin.next ?_
        refine CW.seq ?_
        refine CW.region ?_
        refine RL.y rfl (y_mov (by conv => lhs; whnf)) ?_
        refine RL.y rfl (y_mov (v := .int _ _) rfl) ?_
        refine RL.callw rfl rfl (leastRights1_any (g := (i : Int)) (hV.ext hE6) (hW.ext hE6) (hp0.ext hE16) (hb.ext hE16) hpl hk (by omega)) ?_
        rintro r w7 ⟨rfl, hE7⟩
        have hE67 := hE6.trans hE7
        have hE17 := hE16.trans hE7
        refine RL.y rfl (y_mov (v := .bool _) rfl) ?_
        refine RL.split (t := 33) rfl rfl (fun hw1 => ?_) (fun hw1 => ?_)
        · with_reducible first | (replace hw1 := deNF hw1) | (replace hw1 := of_decide_eq_true hw1) | (replace hw1 := of_decide_eq_false hw1) | (replace hw1 := deNT hw1) | (replace hw1 := deNN hw1) | (replace hw1 := bnT hw1) | (replace hw1 := bnF hw1) | skip
          refine RL.take (t := 33) rfl rfl rfl ?_
          refine RL.y rfl (y_mov (v := .int _ _) rfl) ?_
          refine RL.take (t := 33) rfl rfl rfl ?_
          refine RL.y rfl (y_lt rfl rfl) ?_
          refine RL.take (t := 33) rfl rfl rfl ?_
          refine RL.y rfl (y_mov (v := .bool _) rfl) ?_
          refine RL.split (t := 36) rfl rfl (fun hneg => ?_) (fun hneg => ?_)
          · with_reducible first | (replace hneg := deNF hneg) | (replace hneg := of_decide_eq_true hneg) | (replace hneg := of_decide_eq_false hneg) | (replace hneg := deNT hneg) | (replace hneg := deNN hneg) | (replace hneg := bnT hneg) | (replace hneg := bnF hneg) | skip
            have hyes : lrP ps ds (row rs k) i = true := by unfold lrP; exact decide_eq_true ⟨hw1, .inl (by rw [hpi]; exact hneg)⟩
            refine RL.pass (t := 36) rfl rfl rfl rfl ?_
            refine RL.pass (t := 36) rfl rfl rfl rfl ?_
            refine RL.pass (t := 36) rfl rfl rfl rfl ?_
            refine RL.pass (t := 36) rfl rfl rfl rfl ?_
            refine RL.take (t := 33) rfl rfl rfl ?_
            refine RL.y rfl (y_pickT (v := .bool _) rfl rfl) ?_
            refine RL.y rfl (y_pickT (v := .bool _) rfl rfl) ?_
            refine RL.nil ?_
            refine Fin.next ?_
            refine CW.condT rfl rfl ?_
            refine CW.region ?_
            refine RL.y rfl (y_mov (by conv => lhs; whnf)) ?_
            refine RL.y rfl (y_mov (v := .int _ _) rfl) ?_
            refine RL.app1i rfl rfl sT22 (by omega) (ho6.ext hE7) (by omega) hE67.size rfl (fun _ => rfl) (fun u v8 w8 ho8 hg8 hn8 => ?_)
            refine RL.y rfl (y_asg (by conv => lhs; whnf)) ?_
            refine RL.nil ?_
            refine Fin.blockNormal ?_
            refine Fin.next ?_
            refine CW.region ?_
            refine RL.y rfl (y_add rfl rfl (IntWalk.i64_in _ (by omega))) ?_
            refine RL.y rfl (y_mov (v := .int _ _) rfl) ?_
            refine RL.nil ?_
            refine Fin.le ?_
            exact ⟨ps.length - (i + 1), by omega, i + 1, v8, rfl, hlt, ⟨rfl, rfl, rfl, rfl, rfl, trivial⟩, by rw [idxs_yes hyes]; exact ho8, hE67.grown hg8 (fun b hb => (ho6.lt b hb).1)⟩
          · with_reducible first | (replace hneg := deNF hneg) | (replace hneg := of_decide_eq_true hneg) | (replace hneg := of_decide_eq_false hneg) | (replace hneg := deNT hneg) | (replace hneg := deNN hneg) | (replace hneg := bnT hneg) | (replace hneg := bnF hneg) | skip
            refine RL.take (t := 36) rfl rfl rfl ?_
            refine RL.y rfl (y_mov (by conv => lhs; whnf)) ?_
            refine RL.take (t := 36) rfl rfl rfl ?_
            refine RL.y rfl (y_mov (v := .int _ _) rfl) ?_
            refine RL.take (t := 36) rfl rfl rfl ?_
            refine RL.callw rfl rfl (leastRights1_any (g := ps[i]) (hV.ext hE67) (hW.ext hE67) (hp0.ext hE17) (hb.ext hE17) hpl hk (by omega)) ?_
            rintro r w8 ⟨rfl, hE8⟩
            have hE68 := hE67.trans hE8
            refine RL.take (t := 36) rfl rfl rfl ?_
            refine RL.y rfl (y_not rfl) ?_
            refine RL.take (t := 33) rfl rfl rfl ?_
            refine RL.y rfl (y_pickF (v := .bool _) rfl rfl) ?_
            refine RL.y rfl (y_pickT (v := .bool _) rfl rfl) ?_
            refine RL.nil ?_
            refine Fin.next ?_
            refine CW.cond rfl rfl (fun hw2 => ?_) (fun hw2 => ?_)
            · with_reducible first | (replace hw2 := deNF hw2) | (replace hw2 := of_decide_eq_true hw2) | (replace hw2 := of_decide_eq_false hw2) | (replace hw2 := deNT hw2) | (replace hw2 := deNN hw2) | (replace hw2 := bnT hw2) | (replace hw2 := bnF hw2) | skip
              have hyes : lrP ps ds (row rs k) i = true := by unfold lrP; exact decide_eq_true ⟨hw1, .inr (by rw [hpi]; exact hw2)⟩
              refine CW.region ?_
              refine RL.y rfl (y_mov (by conv => lhs; whnf)) ?_
              refine RL.y rfl (y_mov (v := .int _ _) rfl) ?_
              refine RL.app1i rfl rfl sT22 (by omega) ((ho6.ext hE7).ext hE8) (by omega) hE68.size rfl (fun _ => rfl) (fun u v9 w9 ho9 hg9 hn9 => ?_)
              refine RL.y rfl (y_asg (by conv => lhs; whnf)) ?_
              refine RL.nil ?_
              refine Fin.blockNormal ?_
              refine Fin.next ?_
              refine CW.region ?_
              refine RL.y rfl (y_add rfl rfl (IntWalk.i64_in _ (by omega))) ?_
              refine RL.y rfl (y_mov (v := .int _ _) rfl) ?_
              refine RL.nil ?_
              refine Fin.le ?_
              exact ⟨ps.length - (i + 1), by omega, i + 1, v9, rfl, hlt, ⟨rfl, rfl, rfl, rfl, rfl, trivial⟩, by rw [idxs_yes hyes]; exact ho9, hE68.grown hg9 (fun b hb => (ho6.lt b hb).1)⟩
            · with_reducible first | (replace hw2 := deNF hw2) | (replace hw2 := of_decide_eq_true hw2) | (replace hw2 := of_decide_eq_false hw2) | (replace hw2 := deNT hw2) | (replace hw2 := deNN hw2) | (replace hw2 := bnT hw2) | (replace hw2 := bnF hw2) | skip
              have hno : lrP ps ds (row rs k) i = false := by unfold lrP; exact decide_eq_false (fun h => h.2.elim (fun h2 => hneg (by rw [← hpi]; exact h2)) (fun h2 => h2 (by rw [hpi]; exact hw2)))
              refine CW.skip ?_
              refine Fin.blockNormal ?_
              refine Fin.next ?_
              refine CW.region ?_
              refine RL.y rfl (y_add rfl rfl (IntWalk.i64_in _ (by omega))) ?_
              refine RL.y rfl (y_mov (v := .int _ _) rfl) ?_
              refine RL.nil ?_
              refine Fin.le ?_
              exact ⟨ps.length - (i + 1), by omega, i + 1, vo, rfl, hlt, ⟨rfl, rfl, rfl, rfl, rfl, trivial⟩, by rw [idxs_no hno]; exact (ho6.ext hE7).ext hE8, hE68⟩
        · with_reducible first | (replace hw1 := deNF hw1) | (replace hw1 := of_decide_eq_true hw1) | (replace hw1 := of_decide_eq_false hw1) | (replace hw1 := deNT hw1) | (replace hw1 := deNN hw1) | (replace hw1 := bnT hw1) | (replace hw1 := bnF hw1) | skip
          have hno : lrP ps ds (row rs k) i = false := by unfold lrP; exact decide_eq_false (fun h => hw1 h.1)
          refine RL.pass (t := 33) rfl rfl rfl rfl ?_
          refine RL.pass (t := 33) rfl rfl rfl rfl ?_
          refine RL.pass (t := 33) rfl rfl rfl rfl ?_
          refine RL.pass2 (t := 36) rfl rfl rfl rfl ?_
          refine RL.pass2 (t := 36) rfl rfl rfl rfl ?_
          refine RL.pass2 (t := 36) rfl rfl rfl rfl ?_
          refine RL.pass2 (t := 36) rfl rfl rfl rfl ?_
          refine RL.pass (t := 33) rfl rfl rfl rfl ?_
          refine RL.y rfl (y_pickF (v := .bool _) rfl rfl) ?_
          refine RL.nil ?_
          refine Fin.next ?_
          refine CW.condF rfl rfl ?_
          refine CW.skip ?_
          refine Fin.blockNormal ?_
          refine Fin.next ?_
          refine CW.region ?_
          refine RL.y rfl (y_add rfl rfl (IntWalk.i64_in _ (by omega))) ?_
          refine RL.y rfl (y_mov (v := .int _ _) rfl) ?_
          refine RL.nil ?_
          refine Fin.le ?_
          exact ⟨ps.length - (i + 1), by omega, i + 1, vo, rfl, hlt, ⟨rfl, rfl, rfl, rfl, rfl, trivial⟩, by rw [idxs_no hno]; exact ho6.ext hE7, hE67⟩
      · with_reducible first | (replace hci := deNF hci) | (replace hci := of_decide_eq_true hci) | (replace hci := of_decide_eq_false hci) | (replace hci := deNT hci) | (replace hci := deNN hci) | (replace hci := bnT hci) | (replace hci := bnF hci) | skip
        obtain rfl : i = ps.length := by omega
        refine CW.exit ?_
        refine Fin.thenExit ?_
        refine Fin.thenExit ?_
        refine Fin.blockHit ?_
        refine Fin.next ?_
        refine CW.seq ?_
        refine CW.region ?_
        refine RL.y rfl (y_mov (by conv => lhs; whnf)) ?_
        refine RL.y rfl (y_asg (by conv => lhs; whnf)) ?_
        refine RL.y rfl (y_asg rfl) ?_
        refine RL.nil ?_
        refine Fin.next ?_
        refine CW.ret ?_
        refine Fin.ret2 rfl (by conv => lhs; whnf) (by conv => lhs; whnf) ?_
        exact ⟨_, rfl, _, by rw [h1], by unfold lrV; rw [if_pos h1]; exact ho6.mono hE12.size, hE16⟩
end Go.Proofs.Ytkkeipogkjlneaa
