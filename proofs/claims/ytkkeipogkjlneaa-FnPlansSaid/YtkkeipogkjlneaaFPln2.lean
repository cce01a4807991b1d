/-
  Plans: who may enter; MayEnter, KeysFor, DoorsFor, UnusedDoors.
-/
import Derived.Test.YtkkeipogkjlneaaFPln1
namespace Go.Proofs.Ytkkeipogkjlneaa
open B Go.RowKit

theorem l10May_any {w : World} {b v : Value} {ps : List Int} {ds : List Bool} {ns : List Int} {d : Int} (hb : RdB w b ps ds) (hv : SI w v ns) (ht : tree ps) (hd : d < ps.length) (hl : ps.length ≤ 24) :
    Does Try.prog 74 #[b, v, .int .i64 d] w (fun r w' => r = .bool (decide (may ps ns d)) ∧ Ext w w') := by
  have hb0 := hb
  obtain ⟨vp, vd, rfl, _⟩ := hb
  have hnl := SI.le hv
  refine enter Try.func74 rfl 21 Try.ntmps74 rfl (by kernel_rfl) ?_
  refine CW.seq ?_
  refine CW.region ?_
  refine RL.box (cs := [vp, vd]) rfl rfl rfl (fun w1 hV hE1 => ?_)
  refine RL.y rfl (y_asg rfl) ?_
  refine RL.nil ?_
  refine Fin.next ?_
  refine CW.seq ?_
  refine CW.seq ?_
  refine CW.region ?_
  refine RL.y rfl (y_asg rfl) ?_
  refine RL.nil ?_
  refine Fin.next ?_
  refine CW.block ?_
  refine CW.loop (fun m E w' => ∃ k : Nat, m = ns.length - k ∧ k ≤ ns.length ∧ agrees E [(1, v), (2, .int .i64 d), (3, .pointer (some ⟨w.heap.size, 0, none⟩)), (7, .int .i64 (k : Int))] ∧ (¬ mayTo ps ns d k) ∧ Ext w1 w') _ ⟨0, rfl, Nat.zero_le _, ⟨rfl, rfl, rfl, rfl, trivial⟩, (by unfold mayTo; simp), Ext.refl w1⟩ ?_
  · rintro m E w2 ⟨k, rfl, hkk, hagk, hno, hE2⟩
    refine CW.re _ hagk rfl ?_
    clear hagk
    refine CW.seq ?_
    refine CW.seq ?_
    refine CW.region ?_
    refine RL.y rfl (y_mov (v := .int _ _) rfl) ?_
    refine RL.y rfl (y_mov (by conv => lhs; whnf)) ?_
    refine RL.y rfl (y_len sT22 hv (ints_len _) rfl) ?_
    refine RL.y rfl (y_lt rfl rfl) ?_
    refine RL.nil ?_
    refine Fin.next ?_
    refine CW.cond rfl rfl (fun hck => ?_) (fun hck => ?_)
    · with_reducible first | (replace hck := deNF hck) | (replace hck := of_decide_eq_true hck) | (replace hck := of_decide_eq_false hck) | (replace hck := deNT hck) | (replace hck := deNN hck) | (replace hck := bnT hck) | (replace hck := bnF hck) | skip
      have hltk : k < ns.length := by omega
      have hE12 := hE1.trans hE2
      refine CW.skip ?_
      refine Fin.next ?_
      refine CW.seq ?_
      refine CW.block ?_
      refine CW.seq ?_
      refine CW.quietE mixed (by kernel_rfl) ?_
      refine QL.y rfl (y_loads ag31 rfl (fun _ hC => (hV.ext hE2).ext hC) rfl) ?_
      refine QL.y rfl (y_mov (v := .int _ _) rfl) ?_
      refine QL.y rfl (y_mov (by conv => lhs; whnf)) ?_
      refine QL.y rfl (y_mov (v := .int _ _) rfl) ?_
      refine QL.y rfl (y_ixa sT22 (fun _ hC => (hv.ext hE12).ext hC) (k := k) (ints_lt hltk) rfl rfl) ?_
      refine QL.y rfl (y_load sc2 (fun _ hC => (hv.ext hE12).ext hC) (ints_at hltk) rfl) ?_
      refine QL.call rfl (fun _ hC => qc hC (l09Under_any ((hb0.ext hE12).ext hC) ht hd hl)) ?_
      refine QL.nil (fun w3 hE3 => ?_)
      refine Fin.next ?_
      refine CW.cond rfl rfl (fun h1 => ?_) (fun h1 => ?_)
      · with_reducible first | (replace h1 := deNF h1) | (replace h1 := of_decide_eq_true h1) | (replace h1 := of_decide_eq_false h1) | (replace h1 := deNT h1) | (replace h1 := deNN h1) | (replace h1 := bnT h1) | (replace h1 := bnF h1) | skip
        refine CW.seq ?_
        refine CW.region ?_
        refine RL.y rfl (y_asg rfl) ?_
        refine RL.nil ?_
        refine Fin.next ?_
        refine CW.ret ?_
        refine Fin.blockRet ?_
        refine Fin.thenRet ?_
        refine Fin.thenRet ?_
        refine Fin.blockRet ?_
        refine Fin.thenRet ?_
        refine Fin.ret1 rfl (by conv => lhs; whnf) ?_
        exact ⟨_, rfl, bT (may_at hltk h1), hE12.trans hE3⟩
      · with_reducible first | (replace h1 := deNF h1) | (replace h1 := of_decide_eq_true h1) | (replace h1 := of_decide_eq_false h1) | (replace h1 := deNT h1) | (replace h1 := deNN h1) | (replace h1 := bnT h1) | (replace h1 := bnF h1) | skip
        refine CW.skip ?_
        refine Fin.blockNormal ?_
        refine Fin.next ?_
        refine CW.region ?_
        refine RL.y rfl (y_mov (v := .int _ _) rfl) ?_
        refine RL.y rfl (y_add rfl rfl (IntWalk.i64_in _ (by omega))) ?_
        refine RL.y rfl (y_asg (v := .int _ _) rfl) ?_
        refine RL.nil ?_
        refine Fin.le ?_
        exact ⟨ns.length - (k + 1), by omega, k + 1, rfl, hltk, ⟨rfl, rfl, rfl, rfl, trivial⟩, (fun h => (mayTo_succ hltk).1 h |>.elim hno h1), hE2.trans hE3⟩
    · with_reducible first | (replace hck := deNF hck) | (replace hck := of_decide_eq_true hck) | (replace hck := of_decide_eq_false hck) | (replace hck := deNT hck) | (replace hck := deNN hck) | (replace hck := bnT hck) | (replace hck := bnF hck) | skip
      obtain rfl : ns.length = k := by omega
      refine CW.exit ?_
      refine Fin.thenExit ?_
      refine Fin.thenExit ?_
      refine Fin.blockHit ?_
      refine Fin.next ?_
      refine CW.seq ?_
      refine CW.region ?_
      refine RL.y rfl (y_asg rfl) ?_
      refine RL.nil ?_
      refine Fin.next ?_
      refine CW.ret ?_
      refine Fin.ret1 rfl (by conv => lhs; whnf) ?_
      exact ⟨_, rfl, bF (fun h => hno (mayTo_all.2 h)), hE1.trans hE2⟩

theorem mayEnter1_any {w : World} {vp vd vr : Value} {b c : Nat} {ps : List Int} {ds : List Bool} {x d : Int} (hV : VR w b [vp, vd, vr]) (hW : VR w c [.int .i64 d]) (hb : RdB w (.agg #[vp, vd]) ps ds) (ht : tree ps) (hd : d < ps.length) (hx : 0 ≤ x) (hl : ps.length ≤ 24) :
    Does Try.prog 117 #[.int .i64 x, .pointer (some ⟨b, 0, none⟩), .pointer (some ⟨c, 0, none⟩)] w (fun r w' => r = .bool (decide (under ps d x)) ∧ Ext w w') := by
  refine enter Try.func117 rfl 10 Try.ntmps117 rfl (by kernel_rfl) ?_
  refine CW.seq ?_
  refine CW.region ?_
  refine RL.y rfl (y_asg rfl) ?_
  refine RL.nil ?_
  refine Fin.next ?_
  refine CW.seq ?_
  refine CW.region ?_
  refine RL.y rfl (y_fa fa33_0 rfl rfl) ?_
  refine RL.y rfl (y_loadp (ds := [vp, vd]) ag31 (eqw (hV)) rfl rfl rfl) ?_
  refine RL.y rfl (y_loadv sc2 (eqw (hW)) rfl rfl) ?_
  refine RL.y rfl (y_mov (v := .int _ _) rfl) ?_
  refine RL.call rfl (isUnder_any hb ht hd hx hl) ?_
  rintro r w1 ⟨rfl, hE1⟩
  refine RL.y rfl (y_asg (v := .bool _) rfl) ?_
  refine RL.nil ?_
  refine Fin.next ?_
  refine CW.ret ?_
  refine Fin.ret1 rfl (by conv => lhs; whnf) ?_
  exact ⟨_, rfl, rfl, hE1⟩

theorem mayEnter_any {w : World} {v : Value} {ps : List Int} {ds : List Bool} {rs : List (List Int)} {k d : Int} (hp : RdP w v ps ds rs) (hpl : pln ps ds rs) (hk : isKey rs k) (hd : d < ps.length) :
    Does Try.prog 76 #[v, .int .i64 k, .int .i64 d] w (fun r w' => r = .bool (decide (may ps (row rs k) d)) ∧ Ext w w') := by
  obtain ⟨vp, vd, vr, rfl, hb, hr⟩ := hp
  obtain ⟨cs, hc⟩ := hr
  obtain ⟨hkl, hrow⟩ := row_at hk
  have hmem := rises_mem (hpl.2.2 _ (List.getElem_mem hkl)).2
  have hk2 := hk.2
  refine enter Try.func76 rfl 14 Try.ntmps76 rfl (by kernel_rfl) ?_
  refine CW.seq ?_
  refine CW.region ?_
  refine RL.box (cs := [vp, vd, vr]) rfl rfl rfl (fun w1 hV hE1 => ?_)
  refine RL.box (cs := [.int .i64 d]) rfl rfl rfl (fun w2 hW hE2 => ?_)
  have hE12 := hE1.trans hE2
  refine RL.y rfl (y_asg rfl) ?_
  refine RL.nil ?_
  refine Fin.next ?_
  refine CW.seq ?_
  refine CW.region ?_
  refine RL.y rfl (y_fa fa33_1 rfl rfl) ?_
  refine RL.y rfl (y_loadv sc26 (eqw (hV.ext hE2)) rfl rfl) ?_
  refine RL.y rfl (y_mov (v := .int _ _) rfl) ?_
  refine RL.y rfl (y_ixi sT26 (eqw (hc.1.ext hE12)) hk.1 (by rw [hc.2.1]; omega) rfl rfl) ?_
  refine RL.y rfl (y_load sc22 (eqw (hc.1.ext hE12)) (hc.at hkl) rfl) ?_
  refine RL.y rfl (y_fnl rfl) ?_
  refine RL.call rfl (ContainsFuncI_any (fun x => decide (under ps d x)) ((hc.row hkl).ext hE12) (fun w' x h hx => mayEnter1_any ((hV.ext hE2).ext h) (hW.ext h) ((hb.ext hE12).ext h) (bld_tree hpl.1) hd (hmem x hx).1 hpl.1.1.1.2)) ?_
  rintro r w3 ⟨rfl, hE3⟩
  refine RL.y rfl (y_asg (v := .bool _) rfl) ?_
  refine RL.nil ?_
  refine Fin.next ?_
  refine CW.ret ?_
  refine Fin.ret1 rfl (by conv => lhs; whnf) ?_
  exact ⟨_, rfl, by rw [may_any, hrow], hE12.trans hE3⟩

theorem specMayEnter_any {w : World} {v : Value} {ps : List Int} {ds : List Bool} {rs : List (List Int)} {k d : Int} (hp : RdP w v ps ds rs) :
    Does Try.prog 20 #[v, .int .i64 k, .int .i64 d] w (fun r w' => r = .tuple #[.bool (decide (meV ps ds rs k d)), .int .i64 (pcC ps ds rs k d)] ∧ Ext w w') := by
  have hp0 := hp
  obtain ⟨vp, vd, vr, rfl, hb, hr⟩ := hp
  obtain ⟨cs, hc⟩ := hr
  refine enter Try.func20 rfl 30 Try.ntmps20 rfl (by kernel_rfl) ?_
  refine CW.seq ?_
  refine CW.region ?_
  refine RL.box (cs := [vp, vd, vr]) rfl rfl rfl (fun w1 hV hE1 => ?_)
  refine RL.y rfl (y_asg rfl) ?_
  refine RL.y rfl (y_asg rfl) ?_
  refine RL.nil ?_
  refine Fin.next ?_
  refine CW.seq ?_
  refine CW.seq ?_
  refine CW.region ?_
  refine RL.y rfl (y_loads ag33 rfl (eqw (hV)) rfl) ?_
  refine RL.call rfl (specIsPlan_any (hp0.ext hE1)) ?_
  rintro r w2 ⟨rfl, hE2⟩
  have hE12 := hE1.trans hE2
  refine RL.y rfl (y_not rfl) ?_
  refine RL.nil ?_
  refine Fin.next ?_
  refine CW.cond rfl rfl (fun h1 => ?_) (fun h1 => ?_)
  · with_reducible first | (replace h1 := deNF h1) | (replace h1 := of_decide_eq_true h1) | (replace h1 := of_decide_eq_false h1) | (replace h1 := deNT h1) | (replace h1 := deNN h1) | (replace h1 := bnT h1) | (replace h1 := bnF h1) | skip
    have hno : pcC ps ds rs k d = 1 := if_neg h1
    refine CW.seq ?_
    refine CW.region ?_
    refine RL.y rfl (y_asg rfl) ?_
    refine RL.y rfl (y_asg rfl) ?_
    refine RL.nil ?_
    refine Fin.next ?_
    refine CW.ret ?_
    refine Fin.thenRet ?_
    refine Fin.ret2 rfl (by conv => lhs; whnf) (by conv => lhs; whnf) ?_
    exact ⟨_, rfl, by rw [hno, decide_eq_false (show ¬ meV ps ds rs k d from fun h => by have := h.1; omega)], hE12⟩
  · with_reducible first | (replace h1 := deNF h1) | (replace h1 := of_decide_eq_true h1) | (replace h1 := of_decide_eq_false h1) | (replace h1 := deNT h1) | (replace h1 := deNN h1) | (replace h1 := bnT h1) | (replace h1 := bnF h1) | skip
    refine CW.skip ?_
    refine Fin.next ?_
    refine CW.seq ?_
    refine CW.seq ?_
    refine CW.region ?_
    refine RL.y rfl (y_loads ag33 rfl (eqw (hV.ext hE2)) rfl) ?_
    refine RL.y rfl (y_mov (v := .int _ _) rfl) ?_
    refine RL.call rfl (l10Key_any (hp0.ext hE12)) ?_
    rintro r w3 ⟨rfl, hE3⟩
    have hE13 := hE12.trans hE3
    refine RL.y rfl (y_not rfl) ?_
    refine RL.y rfl (y_mov (v := .bool _) rfl) ?_
    refine RL.split (t := 15) rfl rfl (fun h2 => ?_) (fun h2 => ?_)
    · with_reducible first | (replace h2 := deNF h2) | (replace h2 := of_decide_eq_true h2) | (replace h2 := of_decide_eq_false h2) | (replace h2 := deNT h2) | (replace h2 := deNN h2) | (replace h2 := bnT h2) | (replace h2 := bnF h2) | skip
      have hno : pcC ps ds rs k d = 2 := by unfold pcC; rw [if_pos h1, if_neg (fun h => h2 h.1)]
      refine RL.pass (t := 15) rfl rfl rfl rfl ?_
      refine RL.pass (t := 15) rfl rfl rfl rfl ?_
      refine RL.pass (t := 15) rfl rfl rfl rfl ?_
      refine RL.pass (t := 15) rfl rfl rfl rfl ?_
      refine RL.y rfl (y_pickT (v := .bool _) rfl rfl) ?_
      refine RL.nil ?_
      refine Fin.next ?_
      refine CW.condT rfl rfl ?_
      refine CW.seq ?_
      refine CW.region ?_
      refine RL.y rfl (y_asg rfl) ?_
      refine RL.y rfl (y_asg rfl) ?_
      refine RL.nil ?_
      refine Fin.next ?_
      refine CW.ret ?_
      refine Fin.thenRet ?_
      refine Fin.ret2 rfl (by conv => lhs; whnf) (by conv => lhs; whnf) ?_
      exact ⟨_, rfl, by rw [hno, decide_eq_false (show ¬ meV ps ds rs k d from fun h => by have := h.1; omega)], hE13⟩
    · with_reducible first | (replace h2 := deNF h2) | (replace h2 := of_decide_eq_true h2) | (replace h2 := of_decide_eq_false h2) | (replace h2 := deNT h2) | (replace h2 := deNN h2) | (replace h2 := bnT h2) | (replace h2 := bnF h2) | skip
      refine RL.take (t := 15) rfl rfl rfl ?_
      refine RL.y rfl (y_loads ag33 rfl (eqw ((hV.ext hE2).ext hE3)) rfl) ?_
      refine RL.take (t := 15) rfl rfl rfl ?_
      refine RL.y rfl (y_mov (v := .int _ _) rfl) ?_
      refine RL.take (t := 15) rfl rfl rfl ?_
      refine RL.call rfl (l10Door_any (hp0.ext hE13) h1.1.1.2.1) ?_
      rintro r w4 ⟨rfl, hE4⟩
      have hE14 := hE13.trans hE4
      refine RL.take (t := 15) rfl rfl rfl ?_
      refine RL.y rfl (y_not rfl) ?_
      refine RL.y rfl (y_pickF (v := .bool _) rfl rfl) ?_
      refine RL.nil ?_
      refine Fin.next ?_
      refine CW.cond rfl rfl (fun h3 => ?_) (fun h3 => ?_)
      · with_reducible first | (replace h3 := deNF h3) | (replace h3 := of_decide_eq_true h3) | (replace h3 := of_decide_eq_false h3) | (replace h3 := deNT h3) | (replace h3 := deNN h3) | (replace h3 := bnT h3) | (replace h3 := bnF h3) | skip
        have hno : pcC ps ds rs k d = 2 := by unfold pcC; rw [if_pos h1, if_neg (fun h => h3 h.2)]
        refine CW.seq ?_
        refine CW.region ?_
        refine RL.y rfl (y_asg rfl) ?_
        refine RL.y rfl (y_asg rfl) ?_
        refine RL.nil ?_
        refine Fin.next ?_
        refine CW.ret ?_
        refine Fin.thenRet ?_
        refine Fin.ret2 rfl (by conv => lhs; whnf) (by conv => lhs; whnf) ?_
        exact ⟨_, rfl, by rw [hno, decide_eq_false (show ¬ meV ps ds rs k d from fun h => by have := h.1; omega)], hE14⟩
      · with_reducible first | (replace h3 := deNF h3) | (replace h3 := of_decide_eq_true h3) | (replace h3 := of_decide_eq_false h3) | (replace h3 := deNT h3) | (replace h3 := deNN h3) | (replace h3 := bnT h3) | (replace h3 := bnF h3) | skip
        have hyes : pcC ps ds rs k d = 0 := pcC_zero.2 ⟨h1, h2, h3⟩
        obtain ⟨hkl, hrow⟩ := row_at h2
        have hk2 := h2.2
        refine CW.skip ?_
        refine Fin.next ?_
        refine CW.seq ?_
        refine CW.quietE mixed (by kernel_rfl) ?_
        refine QL.y rfl (y_fa fa33_0 rfl rfl) ?_
        refine QL.y rfl (y_loadp (ds := [vp, vd]) ag31 (fun _ hC => (((hV.ext hE2).ext hE3).ext hE4).ext hC) rfl rfl rfl) ?_
        refine QL.y rfl (y_fa fa33_1 rfl rfl) ?_
        refine QL.y rfl (y_loadv sc26 (fun _ hC => (((hV.ext hE2).ext hE3).ext hE4).ext hC) rfl rfl) ?_
        refine QL.y rfl (y_mov (v := .int _ _) rfl) ?_
        refine QL.y rfl (y_ixi sT26 (fun _ hC => (hc.1.ext hE14).ext hC) h2.1 (by rw [hc.2.1]; omega) rfl rfl) ?_
        refine QL.y rfl (y_load sc22 (fun _ hC => (hc.1.ext hE14).ext hC) (hc.at hkl) rfl) ?_
        refine QL.y rfl (y_mov (v := .int _ _) rfl) ?_
        refine QL.call rfl (fun _ hC => qc hC (l10May_any ((hb.ext hE14).ext hC) (((hc.row hkl).ext hE14).ext hC) (bld_tree h1.1) (by have := h3.1; omega) h1.1.1.1.2)) ?_
        refine QL.y rfl (y_asg (v := .bool _) rfl) ?_
        refine QL.y rfl (y_asg rfl) ?_
        refine QL.nil (fun w5 hE5 => ?_)
        refine Fin.next ?_
        refine CW.ret ?_
        refine Fin.ret2 rfl (by conv => lhs; whnf) (by conv => lhs; whnf) ?_
        exact ⟨_, rfl, by rw [hyes, decide_eq_decide.2 (show may ps rs[k.toNat] d ↔ meV ps ds rs k d from ⟨fun h => ⟨hyes, by rw [hrow]; exact h⟩, fun h => by have := h.2; rwa [hrow] at this⟩)], hE14.trans hE5⟩

theorem implMayEnter_any {w : World} {v : Value} {ps : List Int} {ds : List Bool} {rs : List (List Int)} {k d : Int} (hp : RdP w v ps ds rs) :
    Does Try.prog 21 #[v, .int .i64 k, .int .i64 d] w (fun r w' => r = .tuple #[.bool (decide (meV ps ds rs k d)), .int .i64 (pcC ps ds rs k d)] ∧ Ext w w') := by
  have hp0 := hp
  obtain ⟨vp, vd, vr, rfl, hb, hr⟩ := hp
  refine enter Try.func21 rfl 20 Try.ntmps21 rfl (by kernel_rfl) ?_
  refine CW.seq ?_
  refine CW.region ?_
  refine RL.box (cs := [vp, vd, vr]) rfl rfl rfl (fun w1 hV hE1 => ?_)
  refine RL.y rfl (y_asg rfl) ?_
  refine RL.y rfl (y_asg rfl) ?_
  refine RL.nil ?_
  refine Fin.next ?_
  refine CW.seq ?_
  refine CW.seq ?_
  refine CW.region ?_
  refine RL.y rfl (y_loads ag33 rfl (eqw (hV)) rfl) ?_
  refine RL.y rfl (y_mov (v := .int _ _) rfl) ?_
  refine RL.y rfl (y_mov (v := .int _ _) rfl) ?_
  refine RL.call rfl (planCode_any (hp0.ext hE1)) ?_
  rintro r w2 ⟨rfl, hE2⟩
  have hE12 := hE1.trans hE2
  refine RL.y rfl (y_asg (v := .int _ _) rfl) ?_
  refine RL.nil ?_
  refine Fin.next ?_
  refine CW.seq ?_
  refine CW.region ?_
  refine RL.y rfl (y_mov (v := .int _ _) rfl) ?_
  refine RL.y rfl (y_ne rfl rfl) ?_
  refine RL.nil ?_
  refine Fin.next ?_
  refine CW.cond rfl rfl (fun h1 => ?_) (fun h1 => ?_)
  · with_reducible first | (replace h1 := deNF h1) | (replace h1 := of_decide_eq_true h1) | (replace h1 := of_decide_eq_false h1) | (replace h1 := deNT h1) | (replace h1 := deNN h1) | (replace h1 := bnT h1) | (replace h1 := bnF h1) | skip
    refine CW.seq ?_
    refine CW.region ?_
    refine RL.y rfl (y_mov (v := .int _ _) rfl) ?_
    refine RL.y rfl (y_asg rfl) ?_
    refine RL.y rfl (y_asg (v := .int _ _) rfl) ?_
    refine RL.nil ?_
    refine Fin.next ?_
    refine CW.ret ?_
    refine Fin.thenRet ?_
    refine Fin.ret2 rfl (by conv => lhs; whnf) (by conv => lhs; whnf) ?_
    exact ⟨_, rfl, by rw [decide_eq_false (show ¬ meV ps ds rs k d from fun h => h1 h.1)], hE12⟩
  · with_reducible first | (replace h1 := deNF h1) | (replace h1 := of_decide_eq_true h1) | (replace h1 := of_decide_eq_false h1) | (replace h1 := deNT h1) | (replace h1 := deNN h1) | (replace h1 := bnT h1) | (replace h1 := bnF h1) | skip
    obtain ⟨hpl, hk, hd⟩ := pcC_zero.1 h1
    refine CW.skip ?_
    refine Fin.next ?_
    refine CW.seq ?_
    refine CW.region ?_
    refine RL.y rfl (y_loads ag33 rfl (eqw (hV.ext hE2)) rfl) ?_
    refine RL.y rfl (y_mov (v := .int _ _) rfl) ?_
    refine RL.y rfl (y_mov (v := .int _ _) rfl) ?_
    refine RL.call rfl (mayEnter_any (hp0.ext hE12) hpl hk (by have := hd.1; omega)) ?_
    rintro r w3 ⟨rfl, hE3⟩
    refine RL.y rfl (y_asg (v := .bool _) rfl) ?_
    refine RL.y rfl (y_asg rfl) ?_
    refine RL.nil ?_
    refine Fin.next ?_
    refine CW.ret ?_
    refine Fin.ret2 rfl (by conv => lhs; whnf) (by conv => lhs; whnf) ?_
    exact ⟨_, rfl, by rw [h1, decide_eq_decide.2 (show may ps (row rs k) d ↔ meV ps ds rs k d from ⟨fun h => ⟨h1, h⟩, fun h => h.2⟩)], hE12.trans hE3⟩

theorem keysFor_any {w : World} {v : Value} {ps : List Int} {ds : List Bool} {rs : List (List Int)} {d : Int} (hp : RdP w v ps ds rs) (hpl : pln ps ds rs) (hd : d < ps.length) :
    Does Try.prog 77 #[v, .int .i64 d] w (fun v' w' => OV w' w.heap.size 2 v' (ints (kfL ps rs d)) ∧ Ext w w') := by
  have hp0 := hp
  obtain ⟨vp, vd, vr, rfl, hb, hr⟩ := hp
  obtain ⟨cs, hc⟩ := hr
  have hxl := hc.le
  have h10 := hpl.2.1
  refine enter Try.func77 rfl 24 Try.ntmps77 rfl (by kernel_rfl) ?_
  refine CW.seq ?_
  refine CW.region ?_
  refine RL.box (cs := [vp, vd, vr]) rfl rfl rfl (fun w1 hV hE1 => ?_)
  refine RL.y rfl (y_asg rfl) ?_
  refine RL.nil ?_
  refine Fin.next ?_
  refine CW.seq ?_
  refine CW.region ?_
  refine RL.lit0 rfl sT22 (fun vo w2 ho2 hE2 hb2 => ?_)
  refine RL.y rfl (y_asg (by conv => lhs; whnf)) ?_
  refine RL.nil ?_
  refine Fin.next ?_
  refine CW.seq ?_
  refine CW.seq ?_
  refine CW.region ?_
  refine RL.y rfl (y_fa fa33_1 rfl rfl) ?_
  refine RL.y rfl (y_loadv sc26 (eqw (hV.ext hE2)) rfl rfl) ?_
  refine RL.y rfl (y_len sT26 hc.1 hc.2.1 rfl) ?_
  refine RL.y rfl (y_mov rfl) ?_
  refine RL.nil ?_
  refine Fin.next ?_
  refine CW.block ?_
  refine CW.loop (fun m E w' => ∃ (i : Nat) (vo : Value), m = rs.length - i ∧ i ≤ rs.length ∧ agrees E [(1, .int .i64 d), (2, .pointer (some ⟨w.heap.size, 0, none⟩)), (5, vo), (10, .int .i64 rs.length), (11, .int .i64 (i : Int))] ∧ OV w' w1.heap.size 2 vo (ints (idxs (kfP ps rs d) i)) ∧ Ext w1 w') _ (⟨0, vo, rfl, Nat.zero_le _, ⟨rfl, rfl, rfl, rfl, rfl, trivial⟩, ho2, hE2⟩) ?_
  · rintro m E w3 ⟨i, vo, rfl, hi, hag, ho3, hE3⟩
    refine CW.re _ hag rfl ?_
    have hle := idxs_le (kfP ps rs d) i
    have hE13 := hE1.trans hE3
    refine CW.seq ?_
    refine CW.region ?_
    refine RL.y rfl (y_lt rfl rfl) ?_
    refine RL.nil ?_
    refine Fin.next ?_
    refine CW.seq ?_
    refine CW.cond rfl rfl (fun hc1 => ?_) (fun hc1 => ?_)
    · with_reducible first | (replace hc1 := deNF hc1) | (replace hc1 := of_decide_eq_true hc1) | (replace hc1 := of_decide_eq_false hc1) | (replace hc1 := deNT hc1) | (replace hc1 := deNN hc1) | (replace hc1 := bnT hc1) | (replace hc1 := bnF hc1) | skip
      have hlt : i < rs.length := by omega
      refine CW.skip ?_
      refine Fin.next ?_
      refine CW.seq ?_
      refine CW.block ?_
      refine CW.seq ?_
      refine CW.region ?_
      refine RL.y rfl (y_mov (v := .int _ _) rfl) ?_
      refine RL.y rfl (y_asg (v := .int _ _) rfl) ?_
      refine RL.nil ?_
      refine Fin.next ?_
      refine CW.seq ?_
      refine CW.region ?_
      refine RL.y rfl (y_loads ag33 rfl (eqw (hV.ext hE3)) rfl) ?_
      refine RL.y rfl (y_mov (v := .int _ _) rfl) ?_
      refine RL.y rfl (y_mov (v := .int _ _) rfl) ?_
      refine RL.call rfl (mayEnter_any (k := (i : Int)) (hp0.ext hE13) hpl ⟨by omega, by omega⟩ hd) ?_
      rintro r w4 ⟨rfl, hE4⟩
      rw [row_nat]
      refine RL.nil ?_
      refine Fin.next ?_
      refine CW.cond rfl rfl (fun h2 => ?_) (fun h2 => ?_)
      · with_reducible first | (replace h2 := deNF h2) | (replace h2 := of_decide_eq_true h2) | (replace h2 := of_decide_eq_false h2) | (replace h2 := deNT h2) | (replace h2 := deNN h2) | (replace h2 := bnT h2) | (replace h2 := bnF h2) | skip
        have hpy : kfP ps rs d i = true := decide_eq_true h2
        refine CW.region ?_
        refine RL.y rfl (y_mov (by conv => lhs; whnf)) ?_
        refine RL.y rfl (y_mov (v := .int _ _) rfl) ?_
        refine RL.app1i rfl rfl sT22 (by omega) (ho3.ext hE4) (by omega) (hE3.trans hE4).size rfl (fun _ => rfl) (fun u v6 w6 ho6 hg6 hn6 => ?_)
        refine RL.y rfl (y_asg (by conv => lhs; whnf)) ?_
        refine RL.nil ?_
        refine Fin.blockNormal ?_
        refine Fin.next ?_
        refine CW.region ?_
        refine RL.y rfl (y_add rfl rfl (IntWalk.i64_in _ (by omega))) ?_
        refine RL.y rfl (y_mov (v := .int _ _) rfl) ?_
        refine RL.nil ?_
        refine Fin.le ?_
        exact ⟨rs.length - (i + 1), by omega, i + 1, v6, rfl, hlt, ⟨rfl, rfl, rfl, rfl, rfl, trivial⟩, by rw [idxs_yes hpy]; exact ho6, (hE3.trans hE4).grown hg6 (fun b hb => (ho3.lt b hb).1)⟩
      · with_reducible first | (replace h2 := deNF h2) | (replace h2 := of_decide_eq_true h2) | (replace h2 := of_decide_eq_false h2) | (replace h2 := deNT h2) | (replace h2 := deNN h2) | (replace h2 := bnT h2) | (replace h2 := bnF h2) | skip
        have hpn : kfP ps rs d i = false := decide_eq_false h2
        refine CW.skip ?_
        refine Fin.blockNormal ?_
        refine Fin.next ?_
        refine CW.region ?_
        refine RL.y rfl (y_add rfl rfl (IntWalk.i64_in _ (by omega))) ?_
        refine RL.y rfl (y_mov (v := .int _ _) rfl) ?_
        refine RL.nil ?_
        refine Fin.le ?_
        exact ⟨rs.length - (i + 1), by omega, i + 1, vo, rfl, hlt, ⟨rfl, rfl, rfl, rfl, rfl, trivial⟩, by rw [idxs_no hpn]; exact ho3.ext hE4, hE3.trans hE4⟩
    · with_reducible first | (replace hc1 := deNF hc1) | (replace hc1 := of_decide_eq_true hc1) | (replace hc1 := of_decide_eq_false hc1) | (replace hc1 := deNT hc1) | (replace hc1 := deNN hc1) | (replace hc1 := bnT hc1) | (replace hc1 := bnF hc1) | skip
      obtain rfl : i = rs.length := by omega
      refine CW.exit ?_
      refine Fin.thenExit ?_
      refine Fin.thenExit ?_
      refine Fin.blockHit ?_
      refine Fin.next ?_
      refine CW.seq ?_
      refine CW.region ?_
      refine RL.y rfl (y_mov (by conv => lhs; whnf)) ?_
      refine RL.y rfl (y_asg (by conv => lhs; whnf)) ?_
      refine RL.nil ?_
      refine Fin.next ?_
      refine CW.ret ?_
      refine Fin.ret1 rfl (by conv => lhs; whnf) ?_
      exact ⟨_, rfl, ho3.mono hE1.size, hE13⟩

theorem implKeysFor_any {w : World} {v : Value} {ps : List Int} {ds : List Bool} {rs : List (List Int)} {d : Int} (hp : RdP w v ps ds rs) :
    Does Try.prog 23 #[v, .int .i64 d] w (fun r w' => ∃ v1, r = .tuple #[v1, .int .i64 (pcC ps ds rs 0 d)] ∧ OV w' w.heap.size 2 v1 (ints (kfV ps ds rs d)) ∧ Ext w w') := by
  have hp0 := hp
  obtain ⟨vp, vd, vr, rfl, hb, hr⟩ := hp
  refine enter Try.func23 rfl 16 Try.ntmps23 rfl (by kernel_rfl) ?_
  refine CW.seq ?_
  refine CW.region ?_
  refine RL.box (cs := [vp, vd, vr]) rfl rfl rfl (fun w1 hV hE1 => ?_)
  refine RL.y rfl (y_asg rfl) ?_
  refine RL.y rfl (y_asg rfl) ?_
  refine RL.nil ?_
  refine Fin.next ?_
  refine CW.seq ?_
  refine CW.seq ?_
  refine CW.region ?_
  refine RL.y rfl (y_loads ag33 rfl (eqw (hV)) rfl) ?_
  refine RL.y rfl (y_mov (v := .int _ _) rfl) ?_
  refine RL.call rfl (planCode_any (hp0.ext hE1)) ?_
  rintro r w2 ⟨rfl, hE2⟩
  have hE12 := hE1.trans hE2
  refine RL.y rfl (y_asg (v := .int _ _) rfl) ?_
  refine RL.nil ?_
  refine Fin.next ?_
  refine CW.seq ?_
  refine CW.region ?_
  refine RL.y rfl (y_mov (v := .int _ _) rfl) ?_
  refine RL.y rfl (y_ne rfl rfl) ?_
  refine RL.nil ?_
  refine Fin.next ?_
  refine CW.cond rfl rfl (fun h1 => ?_) (fun h1 => ?_)
  · with_reducible first | (replace h1 := deNF h1) | (replace h1 := of_decide_eq_true h1) | (replace h1 := of_decide_eq_false h1) | (replace h1 := deNT h1) | (replace h1 := deNN h1) | (replace h1 := bnT h1) | (replace h1 := bnF h1) | skip
    refine CW.seq ?_
    refine CW.region ?_
    refine RL.y rfl (y_mov (v := .int _ _) rfl) ?_
    refine RL.y rfl (y_asg rfl) ?_
    refine RL.y rfl (y_asg (v := .int _ _) rfl) ?_
    refine RL.nil ?_
    refine Fin.next ?_
    refine CW.ret ?_
    refine Fin.thenRet ?_
    refine Fin.ret2 rfl (by conv => lhs; whnf) (by conv => lhs; whnf) ?_
    exact ⟨_, rfl, _, rfl, by unfold kfV; rw [if_neg h1]; exact OV.nil _ _ _, hE12⟩
  · with_reducible first | (replace h1 := deNF h1) | (replace h1 := of_decide_eq_true h1) | (replace h1 := of_decide_eq_false h1) | (replace h1 := deNT h1) | (replace h1 := deNN h1) | (replace h1 := bnT h1) | (replace h1 := bnF h1) | skip
    obtain ⟨hpl, hk, hd⟩ := pcC_zero.1 h1
    refine CW.skip ?_
    refine Fin.next ?_
    refine CW.seq ?_
    refine CW.region ?_
    refine RL.y rfl (y_loads ag33 rfl (eqw (hV.ext hE2)) rfl) ?_
    refine RL.y rfl (y_mov (v := .int _ _) rfl) ?_
    refine RL.call rfl (keysFor_any (hp0.ext hE12) hpl (by have := hd.1; omega)) ?_
    rintro v3 w3 ⟨ho, hE3⟩
    refine RL.y rfl (y_asg (by conv => lhs; whnf)) ?_
    refine RL.y rfl (y_asg rfl) ?_
    refine RL.nil ?_
    refine Fin.next ?_
    refine CW.ret ?_
    refine Fin.ret2 rfl (by conv => lhs; whnf) (by conv => lhs; whnf) ?_
    exact ⟨_, rfl, _, by rw [h1], by unfold kfV; rw [if_pos h1]; exact ho.mono hE12.size, hE12.trans hE3⟩

theorem specKeysFor_any {w : World} {v : Value} {ps : List Int} {ds : List Bool} {rs : List (List Int)} {d : Int} (hp : RdP w v ps ds rs) :
    Does Try.prog 22 #[v, .int .i64 d] w (fun r w' => ∃ v1, r = .tuple #[v1, .int .i64 (pcC ps ds rs 0 d)] ∧ OV w' w.heap.size 2 v1 (ints (kfV ps ds rs d)) ∧ Ext w w') := by
  have hp0 := hp
  obtain ⟨vp, vd, vr, rfl, hb, hr⟩ := hp
  obtain ⟨cs, hc⟩ := hr
  have hxl := hc.le
  refine enter Try.func22 rfl 37 Try.ntmps22 rfl (by kernel_rfl) ?_
  refine CW.seq ?_
  refine CW.region ?_
  refine RL.box (cs := [vp, vd, vr]) rfl rfl rfl (fun w1 hV hE1 => ?_)
  refine RL.y rfl (y_asg rfl) ?_
  refine RL.y rfl (y_asg rfl) ?_
  refine RL.nil ?_
  refine Fin.next ?_
  refine CW.seq ?_
  refine CW.seq ?_
  refine CW.region ?_
  refine RL.y rfl (y_loads ag33 rfl (eqw (hV)) rfl) ?_
  refine RL.call rfl (specIsPlan_any (hp0.ext hE1)) ?_
  rintro r w2 ⟨rfl, hE2⟩
  have hE12 := hE1.trans hE2
  refine RL.y rfl (y_not rfl) ?_
  refine RL.nil ?_
  refine Fin.next ?_
  refine CW.cond rfl rfl (fun h1 => ?_) (fun h1 => ?_)
  · with_reducible first | (replace h1 := deNF h1) | (replace h1 := of_decide_eq_true h1) | (replace h1 := of_decide_eq_false h1) | (replace h1 := deNT h1) | (replace h1 := deNN h1) | (replace h1 := bnT h1) | (replace h1 := bnF h1) | skip
    have hno : pcC ps ds rs 0 d = 1 := if_neg h1
    refine CW.seq ?_
    refine CW.region ?_
    refine RL.y rfl (y_asg rfl) ?_
    refine RL.y rfl (y_asg rfl) ?_
    refine RL.nil ?_
    refine Fin.next ?_
    refine CW.ret ?_
    refine Fin.thenRet ?_
    refine Fin.ret2 rfl (by conv => lhs; whnf) (by conv => lhs; whnf) ?_
    exact ⟨_, rfl, _, by rw [hno], by unfold kfV; rw [if_neg (by omega)]; exact OV.nil _ _ _, hE12⟩
  · with_reducible first | (replace h1 := deNF h1) | (replace h1 := of_decide_eq_true h1) | (replace h1 := of_decide_eq_false h1) | (replace h1 := deNT h1) | (replace h1 := deNN h1) | (replace h1 := bnT h1) | (replace h1 := bnF h1) | skip
    refine CW.skip ?_
    refine Fin.next ?_
    refine CW.seq ?_
    refine CW.seq ?_
    refine CW.region ?_
    refine RL.y rfl (y_loads ag33 rfl (eqw (hV.ext hE2)) rfl) ?_
    refine RL.y rfl (y_mov (v := .int _ _) rfl) ?_
    refine RL.call rfl (l10Door_any (hp0.ext hE12) h1.1.1.2.1) ?_
    rintro r w3 ⟨rfl, hE3⟩
    have hE13 := hE12.trans hE3
    refine RL.y rfl (y_not rfl) ?_
    refine RL.nil ?_
    refine Fin.next ?_
    refine CW.cond rfl rfl (fun h2 => ?_) (fun h2 => ?_)
    · with_reducible first | (replace h2 := deNF h2) | (replace h2 := of_decide_eq_true h2) | (replace h2 := of_decide_eq_false h2) | (replace h2 := deNT h2) | (replace h2 := deNN h2) | (replace h2 := bnT h2) | (replace h2 := bnF h2) | skip
      have hno : pcC ps ds rs 0 d = 2 := by rw [pcC_door, if_pos h1, if_neg h2]
      refine CW.seq ?_
      refine CW.region ?_
      refine RL.y rfl (y_asg rfl) ?_
      refine RL.y rfl (y_asg rfl) ?_
      refine RL.nil ?_
      refine Fin.next ?_
      refine CW.ret ?_
      refine Fin.thenRet ?_
      refine Fin.ret2 rfl (by conv => lhs; whnf) (by conv => lhs; whnf) ?_
      exact ⟨_, rfl, _, by rw [hno], by unfold kfV; rw [if_neg (by omega)]; exact OV.nil _ _ _, hE13⟩
    · with_reducible first | (replace h2 := deNF h2) | (replace h2 := of_decide_eq_true h2) | (replace h2 := of_decide_eq_false h2) | (replace h2 := deNT h2) | (replace h2 := deNN h2) | (replace h2 := bnT h2) | (replace h2 := bnF h2) | skip
      have hyes : pcC ps ds rs 0 d = 0 := by rw [pcC_door, if_pos h1, if_pos h2]
      have h10 := h1.2.1
      refine CW.skip ?_
      refine Fin.next ?_
      refine CW.seq ?_
      refine CW.region ?_
      refine RL.lit0 rfl sT22 (fun vo w4 ho4 hE4 hb4 => ?_)
      have hE23 := hE2.trans hE3
      refine RL.y rfl (y_asg (by conv => lhs; whnf)) ?_
      refine RL.nil ?_
      refine Fin.next ?_
      refine CW.seq ?_
      refine CW.seq ?_
      refine CW.region ?_
      refine RL.y rfl (y_asg rfl) ?_
      refine RL.nil ?_
      refine Fin.next ?_
      refine CW.block ?_
      refine CW.loop (fun m E w' => ∃ (i : Nat) (vo : Value), m = rs.length - i ∧ i ≤ rs.length ∧ agrees E [(1, .int .i64 d), (2, .pointer (some ⟨w.heap.size, 0, none⟩)), (6, vo), (7, .int .i64 (i : Int))] ∧ OV w' w1.heap.size 2 vo (ints (idxs (kfP ps rs d) i)) ∧ Ext w1 w') _ (⟨0, vo, rfl, Nat.zero_le _, ⟨rfl, rfl, rfl, rfl, trivial⟩, ho4.mono hE23.size, hE23.trans hE4⟩) ?_
      · rintro m E w5 ⟨i, vo, rfl, hi, hag, ho5, hE5⟩
        refine CW.re _ hag rfl ?_
        have hle := idxs_le (kfP ps rs d) i
        have hE15 := hE1.trans hE5
        refine CW.seq ?_
        refine CW.seq ?_
        refine CW.region ?_
        refine RL.y rfl (y_mov (v := .int _ _) rfl) ?_
        refine RL.y rfl (y_fa fa33_1 rfl rfl) ?_
        refine RL.y rfl (y_loadv sc26 (eqw (hV.ext hE5)) rfl rfl) ?_
        refine RL.y rfl (y_len sT26 hc.1 hc.2.1 rfl) ?_
        refine RL.y rfl (y_lt rfl rfl) ?_
        refine RL.nil ?_
        refine Fin.next ?_
        refine CW.cond rfl rfl (fun hc1 => ?_) (fun hc1 => ?_)
        · with_reducible first | (replace hc1 := deNF hc1) | (replace hc1 := of_decide_eq_true hc1) | (replace hc1 := of_decide_eq_false hc1) | (replace hc1 := deNT hc1) | (replace hc1 := deNN hc1) | (replace hc1 := bnT hc1) | (replace hc1 := bnF hc1) | skip
          have hlt : i < rs.length := by omega
          refine CW.skip ?_
          refine Fin.next ?_
          refine CW.seq ?_
          refine CW.block ?_
          refine CW.seq ?_
          refine CW.quietE mixed (by kernel_rfl) ?_
          refine QL.y rfl (y_fa fa33_0 rfl rfl) ?_
          refine QL.y rfl (y_loadp (ds := [vp, vd]) ag31 (fun _ hC => (hV.ext hE5).ext hC) rfl rfl rfl) ?_
          refine QL.y rfl (y_fa fa33_1 rfl rfl) ?_
          refine QL.y rfl (y_loadv sc26 (fun _ hC => (hV.ext hE5).ext hC) rfl rfl) ?_
          refine QL.y rfl (y_mov (v := .int _ _) rfl) ?_
          refine QL.y rfl (y_ixa sT26 (fun _ hC => (hc.1.ext hE15).ext hC) (k := i) (hc.lt hlt) rfl rfl) ?_
          refine QL.y rfl (y_load sc22 (fun _ hC => (hc.1.ext hE15).ext hC) (hc.at hlt) rfl) ?_
          refine QL.y rfl (y_mov (v := .int _ _) rfl) ?_
          refine QL.call rfl (fun _ hC => qc hC (l10May_any ((hb.ext hE15).ext hC) (((hc.row hlt).ext hE15).ext hC) (bld_tree h1.1) (by have := h2.1; omega) h1.1.1.1.2)) ?_
          refine QL.nil (fun w6 hE6 => ?_)
          refine Fin.next ?_
          refine CW.cond rfl rfl (fun h3 => ?_) (fun h3 => ?_)
          · with_reducible first | (replace h3 := deNF h3) | (replace h3 := of_decide_eq_true h3) | (replace h3 := of_decide_eq_false h3) | (replace h3 := deNT h3) | (replace h3 := deNN h3) | (replace h3 := bnT h3) | (replace h3 := bnF h3) | skip
            have hpy : kfP ps rs d i = true := by unfold kfP; rw [getD_lt hlt]; exact decide_eq_true h3
            refine CW.region ?_
            refine RL.y rfl (y_mov (by conv => lhs; whnf)) ?_
            refine RL.y rfl (y_mov (v := .int _ _) rfl) ?_
            refine RL.app1i rfl rfl sT22 (by omega) (ho5.ext hE6) (by omega) (hE5.trans hE6).size rfl (fun _ => rfl) (fun u v6 w7 ho6 hg6 hn6 => ?_)
            refine RL.y rfl (y_asg (by conv => lhs; whnf)) ?_
            refine RL.nil ?_
            refine Fin.blockNormal ?_
            refine Fin.next ?_
            refine CW.region ?_
            refine RL.y rfl (y_mov (v := .int _ _) rfl) ?_
            refine RL.y rfl (y_add rfl rfl (IntWalk.i64_in _ (by omega))) ?_
            refine RL.y rfl (y_asg (v := .int _ _) rfl) ?_
            refine RL.nil ?_
            refine Fin.le ?_
            exact ⟨rs.length - (i + 1), by omega, i + 1, v6, rfl, hlt, ⟨rfl, rfl, rfl, rfl, trivial⟩, by rw [idxs_yes hpy]; exact ho6, (hE5.trans hE6).grown hg6 (fun b hb => (ho5.lt b hb).1)⟩
          · with_reducible first | (replace h3 := deNF h3) | (replace h3 := of_decide_eq_true h3) | (replace h3 := of_decide_eq_false h3) | (replace h3 := deNT h3) | (replace h3 := deNN h3) | (replace h3 := bnT h3) | (replace h3 := bnF h3) | skip
            have hpn : kfP ps rs d i = false := by unfold kfP; rw [getD_lt hlt]; exact decide_eq_false h3
            refine CW.skip ?_
            refine Fin.blockNormal ?_
            refine Fin.next ?_
            refine CW.region ?_
            refine RL.y rfl (y_mov (v := .int _ _) rfl) ?_
            refine RL.y rfl (y_add rfl rfl (IntWalk.i64_in _ (by omega))) ?_
            refine RL.y rfl (y_asg (v := .int _ _) rfl) ?_
            refine RL.nil ?_
            refine Fin.le ?_
            exact ⟨rs.length - (i + 1), by omega, i + 1, vo, rfl, hlt, ⟨rfl, rfl, rfl, rfl, trivial⟩, by rw [idxs_no hpn]; exact ho5.ext hE6, hE5.trans hE6⟩
        · with_reducible first | (replace hc1 := deNF hc1) | (replace hc1 := of_decide_eq_true hc1) | (replace hc1 := of_decide_eq_false hc1) | (replace hc1 := deNT hc1) | (replace hc1 := deNN hc1) | (replace hc1 := bnT hc1) | (replace hc1 := bnF hc1) | skip
          obtain rfl : i = rs.length := by omega
          refine CW.exit ?_
          refine Fin.thenExit ?_
          refine Fin.thenExit ?_
          refine Fin.blockHit ?_
          refine Fin.next ?_
          refine CW.seq ?_
          refine CW.region ?_
          refine RL.y rfl (y_mov (by conv => lhs; whnf)) ?_
          refine RL.y rfl (y_asg (by conv => lhs; whnf)) ?_
          refine RL.y rfl (y_asg rfl) ?_
          refine RL.nil ?_
          refine Fin.next ?_
          refine CW.ret ?_
          refine Fin.ret2 rfl (by conv => lhs; whnf) (by conv => lhs; whnf) ?_
          exact ⟨_, rfl, _, by rw [hyes], by unfold kfV; rw [if_pos hyes]; exact ho5.mono hE1.size, hE15⟩

theorem l10Doors_any {w : World} {b v : Value} {ps : List Int} {ds : List Bool} {ns : List Int} (hb : RdB w b ps ds) (hv : SI w v ns) (hbl : bld ps ds) :
    Does Try.prog 97 #[b, v] w (fun v' w' => OV w' w.heap.size 2 v' (ints (dfL ps ds ns)) ∧ Ext w w') := by
  have hb0 := hb
  obtain ⟨vp, vd, rfl, _⟩ := hb
  have h24 := drs_len hbl
  refine enter Try.func97 rfl 32 Try.ntmps97 rfl (by kernel_rfl) ?_
  refine CW.seq ?_
  refine CW.region ?_
  refine RL.box (cs := [vp, vd]) rfl rfl rfl (fun w1 hV hE1 => ?_)
  refine RL.y rfl (y_asg rfl) ?_
  refine RL.nil ?_
  refine Fin.next ?_
  refine CW.seq ?_
  refine CW.region ?_
  refine RL.y rfl (y_loads ag31 rfl (eqw (hV)) rfl) ?_
  refine RL.call rfl (l09Doors_any (hb0.ext hE1) hbl) ?_
  rintro vl w2 ⟨hol, hE2⟩
  replace hol : OV w2 w1.heap.size 2 vl (ints (drs ps ds)) := hol
  have hE12 := hE1.trans hE2
  refine RL.y rfl (y_asg (by conv => lhs; whnf)) ?_
  refine RL.nil ?_
  refine Fin.next ?_
  refine CW.seq ?_
  refine CW.region ?_
  refine RL.lit0 rfl sT22 (fun vo w3 ho3 hE3 hb3 => ?_)
  refine RL.y rfl (y_asg (by conv => lhs; whnf)) ?_
  refine RL.nil ?_
  refine Fin.next ?_
  refine CW.seq ?_
  refine CW.seq ?_
  refine CW.region ?_
  refine RL.y rfl (y_asg rfl) ?_
  refine RL.nil ?_
  refine Fin.next ?_
  refine CW.block ?_
  refine CW.loop (fun m E w' => ∃ (i : Nat) (vo : Value), m = (drs ps ds).length - i ∧ i ≤ (drs ps ds).length ∧ agrees E [(1, v), (2, .pointer (some ⟨w.heap.size, 0, none⟩)), (5, vl), (6, vo), (7, .int .i64 (i : Int))] ∧ OV w' w2.heap.size 2 vo (ints (((drs ps ds).take i).filter (fun d => decide (may ps ns d)))) ∧ Ext w2 w') _ (⟨0, vo, rfl, Nat.zero_le _, ⟨rfl, rfl, rfl, rfl, rfl, trivial⟩, ho3, hE3⟩) ?_
  · rintro m E w5 ⟨i, vo, rfl, hi, hag, ho5, hE5⟩
    refine CW.re _ hag rfl ?_
    have hle := filter_le (p := fun d => decide (may ps ns d)) (xs := (drs ps ds).take i)
    rw [List.length_take] at hle
    have hE15 := hE12.trans hE5
    refine CW.seq ?_
    refine CW.seq ?_
    refine CW.region ?_
    refine RL.y rfl (y_mov (v := .int _ _) rfl) ?_
    refine RL.y rfl (y_mov (by conv => lhs; whnf)) ?_
    refine RL.y rfl (y_len sT22 (hol.ext hE5).sv (ints_len _) rfl) ?_
    refine RL.y rfl (y_lt rfl rfl) ?_
    refine RL.nil ?_
    refine Fin.next ?_
    refine CW.cond rfl rfl (fun hc1 => ?_) (fun hc1 => ?_)
    · with_reducible first | (replace hc1 := deNF hc1) | (replace hc1 := of_decide_eq_true hc1) | (replace hc1 := of_decide_eq_false hc1) | (replace hc1 := deNT hc1) | (replace hc1 := deNN hc1) | (replace hc1 := bnT hc1) | (replace hc1 := bnF hc1) | skip
      have hlt : i < (drs ps ds).length := by omega
      have hdr := mem_idxs_door (List.getElem_mem hlt)
      refine CW.skip ?_
      refine Fin.next ?_
      refine CW.seq ?_
      refine CW.block ?_
      refine CW.seq ?_
      refine CW.quietE mixed (by kernel_rfl) ?_
      refine QL.y rfl (y_loads ag31 rfl (fun _ hC => ((hV.ext hE2).ext hE5).ext hC) rfl) ?_
      refine QL.y rfl (y_mov (by conv => lhs; whnf)) ?_
      refine QL.y rfl (y_mov (by conv => lhs; whnf)) ?_
      refine QL.y rfl (y_mov (v := .int _ _) rfl) ?_
      refine QL.y rfl (y_ixa sT22 (fun _ hC => ((hol.ext hE5).sv).ext hC) (k := i) (ints_lt hlt) rfl rfl) ?_
      refine QL.y rfl (y_load sc2 (fun _ hC => ((hol.ext hE5).sv).ext hC) (ints_at hlt) rfl) ?_
      refine QL.call rfl (fun _ hC => qc hC (l10May_any ((hb0.ext hE15).ext hC) ((hv.ext hE15).ext hC) (bld_tree hbl) hdr.2 hbl.1.1.2)) ?_
      refine QL.nil (fun w6 hE6 => ?_)
      refine Fin.next ?_
      refine CW.cond rfl rfl (fun h3 => ?_) (fun h3 => ?_)
      · with_reducible first | (replace h3 := deNF h3) | (replace h3 := of_decide_eq_true h3) | (replace h3 := of_decide_eq_false h3) | (replace h3 := deNT h3) | (replace h3 := deNN h3) | (replace h3 := bnT h3) | (replace h3 := bnF h3) | skip
        refine CW.region ?_
        refine RL.y rfl (y_mov (by conv => lhs; whnf)) ?_
        refine RL.y rfl (y_mov (by conv => lhs; whnf)) ?_
        refine RL.y rfl (y_mov (v := .int _ _) rfl) ?_
        refine RL.y rfl (y_ixa sT22 (eqw (((hol.ext hE5).ext hE6).sv)) (k := i) (ints_lt hlt) rfl rfl) ?_
        refine RL.y rfl (y_load sc2 (eqw (((hol.ext hE5).ext hE6).sv)) (ints_at hlt) rfl) ?_
        refine RL.app1i rfl rfl sT22 (by omega) (ho5.ext hE6) (by omega) (hE5.trans hE6).size rfl (fun _ => rfl) (fun u v6 w7 ho6 hg6 hn6 => ?_)
        refine RL.y rfl (y_asg (by conv => lhs; whnf)) ?_
        refine RL.nil ?_
        refine Fin.blockNormal ?_
        refine Fin.next ?_
        refine CW.region ?_
        refine RL.y rfl (y_mov (v := .int _ _) rfl) ?_
        refine RL.y rfl (y_add rfl rfl (IntWalk.i64_in _ (by omega))) ?_
        refine RL.y rfl (y_asg (v := .int _ _) rfl) ?_
        refine RL.nil ?_
        refine Fin.le ?_
        exact ⟨(drs ps ds).length - (i + 1), by omega, i + 1, v6, rfl, hlt, ⟨rfl, rfl, rfl, rfl, rfl, trivial⟩, by rw [filter_take hlt, if_pos (decide_eq_true h3)]; exact ho6, (hE5.trans hE6).grown hg6 (fun b hb => (ho5.lt b hb).1)⟩
      · with_reducible first | (replace h3 := deNF h3) | (replace h3 := of_decide_eq_true h3) | (replace h3 := of_decide_eq_false h3) | (replace h3 := deNT h3) | (replace h3 := deNN h3) | (replace h3 := bnT h3) | (replace h3 := bnF h3) | skip
        refine CW.skip ?_
        refine Fin.blockNormal ?_
        refine Fin.next ?_
        refine CW.region ?_
        refine RL.y rfl (y_mov (v := .int _ _) rfl) ?_
        refine RL.y rfl (y_add rfl rfl (IntWalk.i64_in _ (by omega))) ?_
        refine RL.y rfl (y_asg (v := .int _ _) rfl) ?_
        refine RL.nil ?_
        refine Fin.le ?_
        exact ⟨(drs ps ds).length - (i + 1), by omega, i + 1, vo, rfl, hlt, ⟨rfl, rfl, rfl, rfl, rfl, trivial⟩, by rw [filter_take hlt, if_neg (by simpa using h3)]; exact ho5.ext hE6, hE5.trans hE6⟩
    · with_reducible first | (replace hc1 := deNF hc1) | (replace hc1 := of_decide_eq_true hc1) | (replace hc1 := of_decide_eq_false hc1) | (replace hc1 := deNT hc1) | (replace hc1 := deNN hc1) | (replace hc1 := bnT hc1) | (replace hc1 := bnF hc1) | skip
      obtain rfl : i = (drs ps ds).length := by omega
      rw [List.take_length] at ho5
      refine CW.exit ?_
      refine Fin.thenExit ?_
      refine Fin.thenExit ?_
      refine Fin.blockHit ?_
      refine Fin.next ?_
      refine CW.seq ?_
      refine CW.region ?_
      refine RL.y rfl (y_mov (by conv => lhs; whnf)) ?_
      refine RL.y rfl (y_asg (by conv => lhs; whnf)) ?_
      refine RL.nil ?_
      refine Fin.next ?_
      refine CW.ret ?_
      refine Fin.ret1 rfl (by conv => lhs; whnf) ?_
      exact ⟨_, rfl, ho5.mono hE12.size, hE12.trans hE5⟩

theorem specDoorsFor_any {w : World} {v : Value} {ps : List Int} {ds : List Bool} {rs : List (List Int)} {k : Int} (hp : RdP w v ps ds rs) :
    Does Try.prog 43 #[v, .int .i64 k] w (fun r w' => ∃ v1, r = .tuple #[v1, .int .i64 (pkC ps ds rs k)] ∧ OV w' w.heap.size 2 v1 (ints (dfV ps ds rs k)) ∧ Ext w w') := by
  have hp0 := hp
  obtain ⟨vp, vd, vr, rfl, hb, hr⟩ := hp
  obtain ⟨cs, hc⟩ := hr
  refine enter Try.func43 rfl 21 Try.ntmps43 rfl (by kernel_rfl) ?_
  refine CW.seq ?_
  refine CW.region ?_
  refine RL.box (cs := [vp, vd, vr]) rfl rfl rfl (fun w1 hV hE1 => ?_)
  refine RL.y rfl (y_asg rfl) ?_
  refine RL.y rfl (y_asg rfl) ?_
  refine RL.nil ?_
  refine Fin.next ?_
  refine CW.seq ?_
  refine CW.region ?_
  refine RL.y rfl (y_loads ag33 rfl (eqw (hV)) rfl) ?_
  refine RL.y rfl (y_mov (v := .int _ _) rfl) ?_
  refine RL.call rfl (l10Code_any (hp0.ext hE1)) ?_
  rintro r w2 ⟨rfl, hE2⟩
  have hE12 := hE1.trans hE2
  refine RL.y rfl (y_asg (v := .int _ _) rfl) ?_
  refine RL.nil ?_
  refine Fin.next ?_
  refine CW.seq ?_
  refine CW.seq ?_
  refine CW.region ?_
  refine RL.y rfl (y_mov (v := .int _ _) rfl) ?_
  refine RL.y rfl (y_ne rfl rfl) ?_
  refine RL.nil ?_
  refine Fin.next ?_
  refine CW.cond rfl rfl (fun h1 => ?_) (fun h1 => ?_)
  · with_reducible first | (replace h1 := deNF h1) | (replace h1 := of_decide_eq_true h1) | (replace h1 := of_decide_eq_false h1) | (replace h1 := deNT h1) | (replace h1 := deNN h1) | (replace h1 := bnT h1) | (replace h1 := bnF h1) | skip
    refine CW.seq ?_
    refine CW.region ?_
    refine RL.y rfl (y_mov (v := .int _ _) rfl) ?_
    refine RL.y rfl (y_asg rfl) ?_
    refine RL.y rfl (y_asg (v := .int _ _) rfl) ?_
    refine RL.nil ?_
    refine Fin.next ?_
    refine CW.ret ?_
    refine Fin.thenRet ?_
    refine Fin.ret2 rfl (by conv => lhs; whnf) (by conv => lhs; whnf) ?_
    exact ⟨_, rfl, _, rfl, by unfold dfV; rw [if_neg h1]; exact OV.nil _ _ _, hE12⟩
  · with_reducible first | (replace h1 := deNF h1) | (replace h1 := of_decide_eq_true h1) | (replace h1 := of_decide_eq_false h1) | (replace h1 := deNT h1) | (replace h1 := deNN h1) | (replace h1 := bnT h1) | (replace h1 := bnF h1) | skip
    obtain ⟨hpl, hk⟩ := pkC_zero.1 h1
    obtain ⟨hkl, hrow⟩ := row_at hk
    have hk2 := hk.2
    refine CW.skip ?_
    refine Fin.next ?_
    refine CW.seq ?_
    refine CW.tape (Ext _) [9, 8, 7] mixed (by kernel_rfl) (by kernel_rfl) (Ext.drew _) ?_
    refine TL.y rfl rfl (y_fa fa33_0 rfl rfl) ?_
    refine TL.y rfl rfl (y_loadp (ds := [vp, vd]) ag31 (fun _ hC => (hV.ext hE2).ext hC) rfl rfl rfl) ?_
    refine TL.y rfl rfl (y_fa fa33_1 rfl rfl) ?_
    refine TL.y rfl rfl (y_loadv sc26 (fun _ hC => (hV.ext hE2).ext hC) rfl rfl) ?_
    refine TL.y rfl rfl (y_mov (v := .int _ _) rfl) ?_
    refine TL.y rfl rfl (y_ixi sT26 (fun _ hC => (hc.1.ext hE12).ext hC) hk.1 (by rw [hc.2.1]; omega) rfl rfl) ?_
    refine TL.y rfl rfl (y_load sc22 (fun _ hC => (hc.1.ext hE12).ext hC) (hc.at hkl) rfl) ?_
    refine TL.op rfl (fun hC => ?_)
    refine RL.call rfl (l10Doors_any ((hb.ext hE12).ext hC) (((hc.row hkl).ext hE12).ext hC) hpl.1) ?_
    rintro v3 w3 ⟨ho, hE3⟩
    refine RL.nil ?_
    refine Fin.tl (by first | exact hC | (refine Ext.trans hC ?_; assumption)) ?_
    refine TL.yc rfl rfl (y_asg (by conv => lhs; whnf)) ?_
    refine TL.yc rfl rfl (y_asg rfl) ?_
    refine TL.nil (fun hC => ?_)
    refine Fin.next ?_
    refine CW.ret ?_
    refine Fin.ret2 rfl (by conv => lhs; whnf) (by conv => lhs; whnf) ?_
    exact ⟨_, rfl, _, by rw [h1], by unfold dfV; rw [if_pos h1, hrow]; exact ho.mono hE12.size, hE12.trans hC⟩

theorem doorsFor1_any {w : World} {v vp vd vr : Value} {b c : Nat} {ps : List Int} {ds : List Bool} {rs : List (List Int)} {k d : Int} (hV : VR w b [vp, vd, vr]) (hW : VR w c [.int .i64 k]) (hp : RdP w (.agg #[vp, vd, vr]) ps ds rs) (hpl : pln ps ds rs) (hk : isKey rs k) (hd : d < ps.length) :
    Does Try.prog 123 #[.int .i64 d, .pointer (some ⟨b, 0, none⟩), .pointer (some ⟨c, 0, none⟩)] w (fun r w' => r = .bool (!decide (may ps (row rs k) d)) ∧ Ext w w') := by
  refine enter Try.func123 rfl 10 Try.ntmps123 rfl (by kernel_rfl) ?_
  refine CW.seq ?_
  refine CW.region ?_
  refine RL.y rfl (y_asg rfl) ?_
  refine RL.nil ?_
  refine Fin.next ?_
  refine CW.seq ?_
  refine CW.region ?_
  refine RL.y rfl (y_loads ag33 rfl (eqw (hV)) rfl) ?_
  refine RL.y rfl (y_loadv sc2 (eqw (hW)) rfl rfl) ?_
  refine RL.y rfl (y_mov (v := .int _ _) rfl) ?_
  refine RL.call rfl (mayEnter_any hp hpl hk hd) ?_
  rintro r w1 ⟨rfl, hE1⟩
  refine RL.y rfl (y_not rfl) ?_
  refine RL.y rfl (y_asg (v := .bool _) rfl) ?_
  refine RL.nil ?_
  refine Fin.next ?_
  refine CW.ret ?_
  refine Fin.ret1 rfl (by conv => lhs; whnf) ?_
  exact ⟨_, rfl, rfl, hE1⟩

theorem doorsFor_any {w : World} {v : Value} {ps : List Int} {ds : List Bool} {rs : List (List Int)} {k : Int} (hp : RdP w v ps ds rs) (hpl : pln ps ds rs) (hk : isKey rs k) :
    Does Try.prog 98 #[v, .int .i64 k] w (fun v' w' => OV w' w.heap.size 2 v' (ints (dfL ps ds (row rs k))) ∧ Ext w w') := by
  have hp0 := hp
  obtain ⟨vp, vd, vr, rfl, hb, hr⟩ := hp
  refine enter Try.func98 rfl 10 Try.ntmps98 rfl (by kernel_rfl) ?_
  refine CW.seq ?_
  refine CW.region ?_
  refine RL.box (cs := [vp, vd, vr]) rfl rfl rfl (fun w1 hV hE1 => ?_)
  refine RL.box (cs := [.int .i64 k]) rfl rfl rfl (fun w2 hW hE2 => ?_)
  have hE12 := hE1.trans hE2
  refine RL.y rfl (y_asg rfl) ?_
  refine RL.nil ?_
  refine Fin.next ?_
  refine CW.seq ?_
  refine CW.region ?_
  refine RL.y rfl (y_fa fa33_0 rfl rfl) ?_
  refine RL.y rfl (y_loadp (ds := [vp, vd]) ag31 (eqw (hV.ext hE2)) rfl rfl rfl) ?_
  refine RL.call rfl (doorsUnder_any (hb.ext hE12) hpl.1 (Int.le_refl 0)) ?_
  rintro vl w3 ⟨hol, hE3⟩
  refine RL.y rfl (y_fnl rfl) ?_
  refine RL.call rfl (DeleteFunc_any (w0 := w2) (fun d => !decide (may ps (row rs k) d)) hE3 (Nat.le_refl _) hol (fun w' x h hx => doorsFor1_any (v := undef) ((hV.ext hE2).ext h) (hW.ext h) ((hp0.ext hE12).ext h) hpl hk (mem_idxs_door hx).2)) ?_
  rintro vf w4 ⟨hof, hE4⟩
  rw [bnotnot] at hof
  refine RL.y rfl (y_asg (by conv => lhs; whnf)) ?_
  refine RL.nil ?_
  refine Fin.next ?_
  refine CW.ret ?_
  refine Fin.ret1 rfl (by conv => lhs; whnf) ?_
  exact ⟨_, rfl, hof.mono hE12.size, hE12.trans hE4⟩

theorem implDoorsFor_any {w : World} {v : Value} {ps : List Int} {ds : List Bool} {rs : List (List Int)} {k : Int} (hp : RdP w v ps ds rs) :
    Does Try.prog 44 #[v, .int .i64 k] w (fun r w' => ∃ v1, r = .tuple #[v1, .int .i64 (pkC ps ds rs k)] ∧ OV w' w.heap.size 2 v1 (ints (dfV ps ds rs k)) ∧ Ext w w') := by
  have hp0 := hp
  obtain ⟨vp, vd, vr, rfl, hb, hr⟩ := hp
  refine enter Try.func44 rfl 18 Try.ntmps44 rfl (by kernel_rfl) ?_
  refine CW.seq ?_
  refine CW.region ?_
  refine RL.box (cs := [vp, vd, vr]) rfl rfl rfl (fun w1 hV hE1 => ?_)
  refine RL.y rfl (y_asg rfl) ?_
  refine RL.y rfl (y_asg rfl) ?_
  refine RL.nil ?_
  refine Fin.next ?_
  refine CW.seq ?_
  refine CW.seq ?_
  refine CW.tape (Ext _) [5, 4, 3] mixed (by kernel_rfl) (by kernel_rfl) (Ext.drew _) ?_
  refine TL.y rfl rfl (y_loads ag33 rfl (fun _ hC => (hV).ext hC) rfl) ?_
  refine TL.y rfl rfl (y_mov (v := .int _ _) rfl) ?_
  refine TL.y rfl rfl (y_loads ag33 rfl (fun _ hC => (hV).ext hC) rfl) ?_
  refine TL.op rfl (fun hC => ?_)
  refine RL.call rfl (someDoor_any ((hp0.ext hE1).ext hC)) ?_
  rintro r w2 ⟨i, rfl, hi, hE2⟩
  refine RL.nil ?_
  refine Fin.tl (hC.trans hE2) ?_
  refine TL.op rfl (fun hC => ?_)
  refine RL.call rfl (planCode_any ((hp0.ext hE1).ext hC)) ?_
  rintro r w3 ⟨rfl, hE3⟩
  refine RL.nil ?_
  refine Fin.tl (hC.trans hE3) ?_
  refine TL.yc rfl rfl (y_asg (v := .int _ _) rfl) ?_
  refine TL.nil (fun hC => ?_)
  rw [pcC_key hi]
  have hE13 := hE1.trans hC
  refine Fin.next ?_
  refine CW.seq ?_
  refine CW.region ?_
  refine RL.y rfl (y_mov (v := .int _ _) rfl) ?_
  refine RL.y rfl (y_ne rfl rfl) ?_
  refine RL.nil ?_
  refine Fin.next ?_
  refine CW.cond rfl rfl (fun h1 => ?_) (fun h1 => ?_)
  · with_reducible first | (replace h1 := deNF h1) | (replace h1 := of_decide_eq_true h1) | (replace h1 := of_decide_eq_false h1) | (replace h1 := deNT h1) | (replace h1 := deNN h1) | (replace h1 := bnT h1) | (replace h1 := bnF h1) | skip
    refine CW.seq ?_
    refine CW.region ?_
    refine RL.y rfl (y_mov (v := .int _ _) rfl) ?_
    refine RL.y rfl (y_asg rfl) ?_
    refine RL.y rfl (y_asg (v := .int _ _) rfl) ?_
    refine RL.nil ?_
    refine Fin.next ?_
    refine CW.ret ?_
    refine Fin.thenRet ?_
    refine Fin.ret2 rfl (by conv => lhs; whnf) (by conv => lhs; whnf) ?_
    exact ⟨_, rfl, _, rfl, by unfold dfV; rw [if_neg h1]; exact OV.nil _ _ _, hE13⟩
  · with_reducible first | (replace h1 := deNF h1) | (replace h1 := of_decide_eq_true h1) | (replace h1 := of_decide_eq_false h1) | (replace h1 := deNT h1) | (replace h1 := deNN h1) | (replace h1 := bnT h1) | (replace h1 := bnF h1) | skip
    obtain ⟨hpl, hk⟩ := pkC_zero.1 h1
    refine CW.skip ?_
    refine Fin.next ?_
    refine CW.seq ?_
    refine CW.region ?_
    refine RL.y rfl (y_loads ag33 rfl (eqw (hV.ext hC)) rfl) ?_
    refine RL.y rfl (y_mov (v := .int _ _) rfl) ?_
    refine RL.call rfl (doorsFor_any (hp0.ext hE13) hpl hk) ?_
    rintro v3 w4 ⟨ho, hE4⟩
    refine RL.y rfl (y_asg (by conv => lhs; whnf)) ?_
    refine RL.y rfl (y_asg rfl) ?_
    refine RL.nil ?_
    refine Fin.next ?_
    refine CW.ret ?_
    refine Fin.ret2 rfl (by conv => lhs; whnf) (by conv => lhs; whnf) ?_
    exact ⟨_, rfl, _, by rw [h1], by unfold dfV; rw [if_pos h1]; exact ho.mono hE13.size, hE13.trans hE4⟩
end Go.Proofs.Ytkkeipogkjlneaa
