/-
  CommonGroup.
-/
import Derived.Test.YtebegkegkdmbjaaFBld5
namespace Go.Proofs.Ytebegkegkdmbjaa
open B Go.RowKit

theorem implCommonGroup_any {w : World} {b u : Value} {ps : List Int} {ds : List Bool} {ns : List Int} (hb : RdB w b ps ds) (hu : SI w u ns) :
    Does Try.prog 20 #[b, u] w (fun r w' => r = .tuple #[.int .i64 (cgV ps ds ns), .int .i64 (cgC ps ds ns)] ∧ Ext w w') := by
  have hb0 := hb
  obtain ⟨vp, vd, rfl, hp, hd⟩ := hb
  have hul := SI.le hu
  refine enter Try.func20 rfl 45 Try.ntmps20 rfl (by kernel_rfl) ?_
  refine CW.seq ?_
  refine CW.region ?_
  refine RL.box (cs := [vp, vd]) rfl rfl rfl (fun w1 hV hE1 => ?_)
  refine RL.y rfl (y_asg rfl) ?_
  refine RL.y rfl (y_asg rfl) ?_
  refine RL.nil ?_
  refine Fin.next ?_
  refine CW.seq ?_
  refine CW.seq ?_
  refine CW.region ?_
  refine RL.y rfl (y_loads ag28 rfl (eqw (hV)) rfl) ?_
  refine RL.y rfl (y_mov (by conv => lhs; whnf)) ?_
  refine RL.call rfl (nodeCode_any (hb0.ext hE1) (hu.ext hE1)) ?_
  rintro r w2 ⟨rfl, hE2⟩
  have hE12 := hE1.trans hE2
  refine RL.y rfl (y_asg (v := .int _ _) rfl) ?_
  refine RL.nil ?_
  refine Fin.next ?_
  refine CW.seq ?_
  refine CW.region ?_
  refine RL.y rfl (y_mov (v := .int _ _) rfl) ?_
  refine RL.y rfl (y_ne rfl rfl) ?_
  refine RL.nil ?_
  refine Fin.next ?_
  refine CW.cond rfl rfl (fun hc => ?_) (fun hc => ?_)
  · with_reducible first | (replace hc := deNF hc) | (replace hc := of_decide_eq_true hc) | (replace hc := of_decide_eq_false hc) | (replace hc := deNT hc) | (replace hc := deNN hc) | (replace hc := bnT hc) | (replace hc := bnF hc) | skip
    refine CW.seq ?_
    refine CW.region ?_
    refine RL.y rfl (y_mov (v := .int _ _) rfl) ?_
    refine RL.y rfl (y_asg rfl) ?_
    refine RL.y rfl (y_asg (v := .int _ _) rfl) ?_
    refine RL.nil ?_
    refine Fin.next ?_
    refine CW.ret ?_
    refine Fin.thenRet ?_
    refine Fin.ret2 rfl (by conv => lhs; whnf) (by conv => lhs; whnf) ?_
    exact ⟨_, rfl, by unfold cgV cgC; rw [if_neg hc, if_neg (fun h => hc h.1)], hE12⟩
  · with_reducible first | (replace hc := deNF hc) | (replace hc := of_decide_eq_true hc) | (replace hc := of_decide_eq_false hc) | (replace hc := deNT hc) | (replace hc := deNN hc) | (replace hc := bnT hc) | (replace hc := bnF hc) | skip
    obtain ⟨hbl, hk⟩ := ncC_zero.1 hc
    have ht := bld_tree hbl
    have h24 := hbl.1.1
    refine CW.skip ?_
    refine Fin.next ?_
    refine CW.seq ?_
    refine CW.seq ?_
    refine CW.region ?_
    refine RL.y rfl (y_mov (by conv => lhs; whnf)) ?_
    refine RL.y rfl (y_len sT22 hu (ints_len _) rfl) ?_
    refine RL.y rfl (y_lt rfl rfl) ?_
    refine RL.y rfl (y_mov (v := .bool _) rfl) ?_
    refine RL.split (t := 19) rfl rfl (fun h1 => ?_) (fun h1 => ?_)
    · with_reducible first | (replace h1 := deNF h1) | (replace h1 := of_decide_eq_true h1) | (replace h1 := of_decide_eq_false h1) | (replace h1 := deNT h1) | (replace h1 := deNN h1) | (replace h1 := bnT h1) | (replace h1 := bnF h1) | skip
      refine RL.pass (t := 19) rfl rfl rfl rfl ?_
      refine RL.pass (t := 19) rfl rfl rfl rfl ?_
      refine RL.pass (t := 19) rfl rfl rfl rfl ?_
      refine RL.y rfl (y_pickT (v := .bool _) rfl rfl) ?_
      refine RL.nil ?_
      refine Fin.next ?_
      refine CW.condT rfl rfl ?_
      refine CW.seq ?_
      refine CW.region ?_
      refine RL.y rfl (y_asg rfl) ?_
      refine RL.y rfl (y_asg rfl) ?_
      refine RL.nil ?_
      refine Fin.next ?_
      refine CW.ret ?_
      refine Fin.thenRet ?_
      refine Fin.ret2 rfl (by conv => lhs; whnf) (by conv => lhs; whnf) ?_
      exact ⟨_, rfl, by unfold cgV cgC; rw [if_pos hc, if_neg (fun h => by have := h.2.1; omega), if_neg (by omega)], hE12⟩
    · with_reducible first | (replace h1 := deNF h1) | (replace h1 := of_decide_eq_true h1) | (replace h1 := of_decide_eq_false h1) | (replace h1 := deNT h1) | (replace h1 := deNN h1) | (replace h1 := bnT h1) | (replace h1 := bnF h1) | skip
      refine RL.take (t := 19) rfl rfl rfl ?_
      refine RL.y rfl (y_mov (by conv => lhs; whnf)) ?_
      refine RL.take (t := 19) rfl rfl rfl ?_
      refine RL.y rfl (y_len sT22 hu (ints_len _) rfl) ?_
      refine RL.take (t := 19) rfl rfl rfl ?_
      refine RL.y rfl (y_gt rfl rfl) ?_
      refine RL.y rfl (y_pickF (v := .bool _) rfl rfl) ?_
      refine RL.nil ?_
      refine Fin.next ?_
      refine CW.cond rfl rfl (fun h2 => ?_) (fun h2 => ?_)
      · with_reducible first | (replace h2 := deNF h2) | (replace h2 := of_decide_eq_true h2) | (replace h2 := of_decide_eq_false h2) | (replace h2 := deNT h2) | (replace h2 := deNN h2) | (replace h2 := bnT h2) | (replace h2 := bnF h2) | skip
        refine CW.seq ?_
        refine CW.region ?_
        refine RL.y rfl (y_asg rfl) ?_
        refine RL.y rfl (y_asg rfl) ?_
        refine RL.nil ?_
        refine Fin.next ?_
        refine CW.ret ?_
        refine Fin.thenRet ?_
        refine Fin.ret2 rfl (by conv => lhs; whnf) (by conv => lhs; whnf) ?_
        exact ⟨_, rfl, by unfold cgV cgC; rw [if_pos hc, if_neg (fun h => by have := h.2.2; omega), if_neg (by omega)], hE12⟩
      · with_reducible first | (replace h2 := deNF h2) | (replace h2 := of_decide_eq_true h2) | (replace h2 := of_decide_eq_false h2) | (replace h2 := deNT h2) | (replace h2 := deNN h2) | (replace h2 := bnT h2) | (replace h2 := bnF h2) | skip
        have h0 : 0 < ns.length := by omega
        have hk0 := hk _ (List.getElem_mem h0)
        refine CW.skip ?_
        refine Fin.next ?_
        refine CW.seq ?_
        refine CW.region ?_
        refine RL.y rfl (y_mov (by conv => lhs; whnf)) ?_
        refine RL.y rfl (y_ixa sT22 (eqw (hu.ext hE12)) (k := 0) (ints_lt h0) rfl rfl) ?_
        refine RL.y rfl (y_load sc2 (eqw (hu.ext hE12)) (ints_at h0) rfl) ?_
        refine RL.y rfl (y_asg (v := .int _ _) rfl) ?_
        refine RL.nil ?_
        refine Fin.next ?_
        refine CW.seq ?_
        refine CW.seq ?_
        refine CW.region ?_
        refine RL.y rfl (y_mov (by conv => lhs; whnf)) ?_
        refine RL.y rfl (y_len sT22 hu (ints_len _) rfl) ?_
        refine RL.y rfl (y_mov rfl) ?_
        refine RL.nil ?_
        refine Fin.next ?_
        refine CW.block ?_
        refine CW.loop (fun m E w' => ∃ (i : Nat) (c : Int), m = ns.length - i ∧ i ≤ ns.length ∧ agrees E [(2, .pointer (some ⟨w.heap.size, 0, none⟩)), (27, u), (28, .int .i64 ns.length), (7, .int .i64 c), (29, .int .i64 (i : Int))] ∧ (0 ≤ c ∧ c < ps.length) ∧ (∀ g, (under ps ns[0] g ∧ ∀ x ∈ ns.take i, under ps x g) ↔ under ps c g) ∧ Ext w1 w') _ (⟨0, ns[0], rfl, Nat.zero_le _, ⟨rfl, rfl, rfl, rfl, rfl, trivial⟩, ⟨hk0.1, by omega⟩, by simp, hE2⟩) ?_
        · rintro m E w3 ⟨i, c, rfl, hi, hag, hcr, hJ, hE3⟩
          refine CW.re _ hag rfl ?_
          refine CW.seq ?_
          refine CW.region ?_
          refine RL.y rfl (y_lt rfl rfl) ?_
          refine RL.nil ?_
          refine Fin.next ?_
          refine CW.seq ?_
          refine CW.cond rfl rfl (fun hci => ?_) (fun hci => ?_)
          · with_reducible first | (replace hci := deNF hci) | (replace hci := of_decide_eq_true hci) | (replace hci := of_decide_eq_false hci) | (replace hci := deNT hci) | (replace hci := deNN hci) | (replace hci := bnT hci) | (replace hci := bnF hci) | skip
            have hlt : i < ns.length := by omega
            have hE13 := hE1.trans hE3
            have hki := hk _ (List.getElem_mem hlt)
            refine CW.skip ?_
            refine Fin.next ?_
            refine CW.seq ?_
            refine CW.block ?_
            refine CW.seq ?_
            refine CW.region ?_
            refine RL.y rfl (y_ixa sT22 (eqw (hu.ext hE13)) (k := i) (ints_lt hlt) rfl rfl) ?_
            refine RL.y rfl (y_load sc2 (eqw (hu.ext hE13)) (ints_at hlt) rfl) ?_
            refine RL.y rfl (y_asg (v := .int _ _) rfl) ?_
            refine RL.nil ?_
            refine Fin.next ?_
            refine CW.block ?_
            refine CW.loop (fun m E w' => ∃ z : Int, m = z.toNat ∧ agrees E [(2, .pointer (some ⟨w.heap.size, 0, none⟩)), (27, u), (28, .int .i64 ns.length), (7, .int .i64 z), (9, .int .i64 ns[i]), (29, .int .i64 (i : Int))] ∧ (0 ≤ z ∧ z < ps.length) ∧ (∀ g, (under ps z g ∧ under ps ns[i] g) ↔ (under ps c g ∧ under ps ns[i] g)) ∧ Ext w1 w') _ (⟨c, rfl, ⟨rfl, rfl, rfl, rfl, rfl, rfl, trivial⟩, hcr, fun g => Iff.rfl, hE3⟩) ?_
            · rintro m E w4 ⟨z, rfl, hag, hzr, hK, hE4⟩
              refine CW.re _ hag rfl ?_
              refine CW.seq ?_
              refine CW.seq ?_
              refine CW.region ?_
              refine RL.y rfl (y_loads ag28 rfl (eqw (hV.ext hE4)) rfl) ?_
              refine RL.y rfl (y_mov (v := .int _ _) rfl) ?_
              refine RL.y rfl (y_mov (v := .int _ _) rfl) ?_
              refine RL.call rfl (isUnder_any (hb0.ext (hE1.trans hE4)) ht (by omega) hzr.1 h24.2) ?_
              rintro r w5 ⟨rfl, hE5⟩
              have hE45 := hE4.trans hE5
              refine RL.y rfl (y_not rfl) ?_
              refine RL.nil ?_
              refine Fin.next ?_
              refine CW.cond rfl rfl (fun hn => ?_) (fun hn => ?_)
              · with_reducible first | (replace hn := deNF hn) | (replace hn := of_decide_eq_true hn) | (replace hn := of_decide_eq_false hn) | (replace hn := deNT hn) | (replace hn := deNN hn) | (replace hn := bnT hn) | (replace hn := bnF hn) | skip
                obtain ⟨hz1, hpz, hK'⟩ := cg_step hbl hki.1 (by omega) hzr.1 hzr.2 hn hK
                have hzn : z.toNat < ps.length := by omega
                have hpe : par ps z.toNat = ps[z.toNat] := getD_lt hzn
                rw [hpe] at hpz hK'
                refine CW.skip ?_
                refine Fin.next ?_
                refine CW.block ?_
                refine CW.region ?_
                refine RL.y rfl (y_fa fa28_0 rfl rfl) ?_
                refine RL.y rfl (y_loadv sc22 (eqw (hV.ext hE45)) rfl rfl) ?_
                refine RL.y rfl (y_mov (v := .int _ _) rfl) ?_
                refine RL.y rfl (y_ixi sT22 (eqw (hp.ext (hE1.trans hE45))) hzr.1 (by rw [ints_len]; omega) rfl rfl) ?_
                refine RL.y rfl (y_load sc2 (eqw (hp.ext (hE1.trans hE45))) (ints_at hzn) rfl) ?_
                refine RL.y rfl (y_asg (v := .int _ _) rfl) ?_
                refine RL.nil ?_
                refine Fin.blockNormal ?_
                refine Fin.le ?_
                exact ⟨(ps[z.toNat]).toNat, by omega, ps[z.toNat], rfl, ⟨rfl, rfl, rfl, rfl, rfl, rfl, trivial⟩, ⟨hpz.1, by omega⟩, hK', hE45⟩
              · with_reducible first | (replace hn := deNF hn) | (replace hn := of_decide_eq_true hn) | (replace hn := of_decide_eq_false hn) | (replace hn := deNT hn) | (replace hn := deNN hn) | (replace hn := bnT hn) | (replace hn := bnF hn) | skip
                have hfin := cg_end ht (show ns[i] < (ps.length : Int) by omega) hn hK
                refine CW.exit ?_
                refine Fin.thenExit ?_
                refine Fin.thenExit ?_
                refine Fin.blockHit ?_
                refine Fin.blockNormal ?_
                refine Fin.next ?_
                refine CW.region ?_
                refine RL.y rfl (y_add rfl rfl (IntWalk.i64_in _ (by omega))) ?_
                refine RL.y rfl (y_mov (v := .int _ _) rfl) ?_
                refine RL.nil ?_
                refine Fin.le ?_
                exact ⟨ns.length - (i + 1), by omega, i + 1, z, rfl, hlt, ⟨rfl, rfl, rfl, rfl, rfl, trivial⟩, hzr, fun g => by rw [hfin g, ← hJ g, take_all hlt]; exact and_assoc.symm, hE45⟩
          · with_reducible first | (replace hci := deNF hci) | (replace hci := of_decide_eq_true hci) | (replace hci := of_decide_eq_false hci) | (replace hci := deNT hci) | (replace hci := deNN hci) | (replace hci := bnT hci) | (replace hci := bnF hci) | skip
            obtain rfl : i = ns.length := by omega
            rw [List.take_length] at hJ
            have hfin := cg_final ht hcr.1 hcr.2 (fun g => ⟨fun h => (hJ g).1 ⟨h _ (List.getElem_mem h0), h⟩, fun h => ((hJ g).2 h).2⟩)
            refine CW.exit ?_
            refine Fin.thenExit ?_
            refine Fin.thenExit ?_
            refine Fin.blockHit ?_
            refine Fin.next ?_
            refine CW.seq ?_
            refine CW.region ?_
            refine RL.y rfl (y_mov (v := .int _ _) rfl) ?_
            refine RL.y rfl (y_asg (v := .int _ _) rfl) ?_
            refine RL.y rfl (y_asg rfl) ?_
            refine RL.nil ?_
            refine Fin.next ?_
            refine CW.ret ?_
            refine Fin.ret2 rfl (by conv => lhs; whnf) (by conv => lhs; whnf) ?_
            exact ⟨_, rfl, by unfold cgV cgC; rw [if_pos hc, if_pos ⟨hc, by omega, by omega⟩, if_pos ⟨by omega, by omega⟩, hfin], hE1.trans hE3⟩

theorem specCommonGroup_any {w : World} {b u : Value} {ps : List Int} {ds : List Bool} {ns : List Int} (hb : RdB w b ps ds) (hu : SI w u ns) :
    Does Try.prog 18 #[b, u] w (fun r w' => r = .tuple #[.int .i64 (cgV ps ds ns), .int .i64 (cgC ps ds ns)] ∧ Ext w w') := by
  have hb0 := hb
  obtain ⟨vp, vd, rfl, hp, hd⟩ := hb
  have hul := SI.le hu
  refine enter Try.func18 rfl 57 Try.ntmps18 rfl (by kernel_rfl) ?_
  refine CW.seq ?_
  refine CW.region ?_
  refine RL.box (cs := [vp, vd]) rfl rfl rfl (fun w1 hV hE1 => ?_)
  refine RL.y rfl (y_asg rfl) ?_
  refine RL.y rfl (y_asg rfl) ?_
  refine RL.nil ?_
  refine Fin.next ?_
  refine CW.seq ?_
  refine CW.seq ?_
  refine CW.region ?_
  refine RL.y rfl (y_loads ag28 rfl (eqw (hV)) rfl) ?_
  refine RL.call rfl (specIsBuilding_any (hb0.ext hE1)) ?_
  rintro r w2 ⟨rfl, hE2⟩
  have hE12 := hE1.trans hE2
  refine RL.y rfl (y_not rfl) ?_
  refine RL.nil ?_
  refine Fin.next ?_
  refine CW.cond rfl rfl (fun hbl => ?_) (fun hbl => ?_)
  · with_reducible first | (replace hbl := deNF hbl) | (replace hbl := of_decide_eq_true hbl) | (replace hbl := of_decide_eq_false hbl) | (replace hbl := deNT hbl) | (replace hbl := deNN hbl) | (replace hbl := bnT hbl) | (replace hbl := bnF hbl) | skip
    have hno : ncC ps ds ns = 1 := if_neg hbl
    refine CW.seq ?_
    refine CW.region ?_
    refine RL.y rfl (y_asg rfl) ?_
    refine RL.y rfl (y_asg rfl) ?_
    refine RL.nil ?_
    refine Fin.next ?_
    refine CW.ret ?_
    refine Fin.thenRet ?_
    refine Fin.ret2 rfl (by conv => lhs; whnf) (by conv => lhs; whnf) ?_
    exact ⟨_, rfl, by unfold cgV cgC; rw [if_neg (show ¬ cgOk ps ds ns from fun h => by have := h.1; omega), if_neg (show ¬ ncC ps ds ns = 0 by omega), hno], hE12⟩
  · with_reducible first | (replace hbl := deNF hbl) | (replace hbl := of_decide_eq_true hbl) | (replace hbl := of_decide_eq_false hbl) | (replace hbl := deNT hbl) | (replace hbl := deNN hbl) | (replace hbl := bnT hbl) | (replace hbl := bnF hbl) | skip
    have ht := bld_tree hbl
    have h24 := hbl.1.1
    refine CW.skip ?_
    refine Fin.next ?_
    refine CW.seq ?_
    refine CW.seq ?_
    refine CW.region ?_
    refine RL.y rfl (y_asg rfl) ?_
    refine RL.nil ?_
    refine Fin.next ?_
    refine CW.block ?_
    refine CW.loop (fun m E w' => ∃ i : Nat, m = ns.length - i ∧ i ≤ ns.length ∧ agrees E [(1, u), (2, .pointer (some ⟨w.heap.size, 0, none⟩)), (6, .int .i64 (i : Int))] ∧ (∀ x ∈ ns.take i, 0 ≤ x ∧ x ≤ (ps.length : Int) - 1) ∧ Ext w1 w') _ ⟨0, rfl, Nat.zero_le _, ⟨rfl, rfl, rfl, trivial⟩, by simp, hE2⟩ ?_
    · rintro m E w3 ⟨i, rfl, hki, hagi, hall, hE3⟩
      refine CW.re _ hagi rfl ?_
      clear hagi
      refine CW.seq ?_
      refine CW.seq ?_
      refine CW.region ?_
      refine RL.y rfl (y_mov (v := .int _ _) rfl) ?_
      refine RL.y rfl (y_mov (by conv => lhs; whnf)) ?_
      refine RL.y rfl (y_len sT22 hu (ints_len _) rfl) ?_
      refine RL.y rfl (y_lt rfl rfl) ?_
      refine RL.nil ?_
      refine Fin.next ?_
      refine CW.cond rfl rfl (fun hci => ?_) (fun hci => ?_)
      · with_reducible first | (replace hci := deNF hci) | (replace hci := of_decide_eq_true hci) | (replace hci := of_decide_eq_false hci) | (replace hci := deNT hci) | (replace hci := deNN hci) | (replace hci := bnT hci) | (replace hci := bnF hci) | skip
        have hlti : i < ns.length := by omega
        have hE13 := hE1.trans hE3
        refine CW.skip ?_
        refine Fin.next ?_
        refine CW.seq ?_
        refine CW.block ?_
        refine CW.seq ?_
        refine CW.quietE mixed (by kernel_rfl) ?_
        refine QL.y rfl (y_loads ag28 rfl (fun _ hC => (hV.ext hE3).ext hC) rfl) ?_
        refine QL.y rfl (y_mov (by conv => lhs; whnf)) ?_
        refine QL.y rfl (y_mov (v := .int _ _) rfl) ?_
        refine QL.y rfl (y_ixa sT22 (fun _ hC => (hu.ext hE13).ext hC) (k := i) (ints_lt hlti) rfl rfl) ?_
        refine QL.y rfl (y_load sc2 (fun _ hC => (hu.ext hE13).ext hC) (ints_at hlti) rfl) ?_
        refine QL.call rfl (fun _ hC => qc hC (l09Node_any ((hb0.ext hE13).ext hC))) ?_
        refine QL.y rfl (y_not rfl) ?_
        refine QL.nil (fun w4 hE4 => ?_)
        refine Fin.next ?_
        refine CW.cond rfl rfl (fun hc2 => ?_) (fun hc2 => ?_)
        · with_reducible first | (replace hc2 := deNF hc2) | (replace hc2 := of_decide_eq_true hc2) | (replace hc2 := of_decide_eq_false hc2) | (replace hc2 := deNT hc2) | (replace hc2 := deNN hc2) | (replace hc2 := bnT hc2) | (replace hc2 := bnF hc2) | skip
          have hno : ncC ps ds ns = 2 := by unfold ncC; rw [if_pos hbl, if_neg (fun h => hc2 (h _ (List.getElem_mem hlti)))]
          refine CW.seq ?_
          refine CW.region ?_
          refine RL.y rfl (y_asg rfl) ?_
          refine RL.y rfl (y_asg rfl) ?_
          refine RL.nil ?_
          refine Fin.next ?_
          refine CW.ret ?_
          refine Fin.blockRet ?_
          refine Fin.thenRet ?_
          refine Fin.thenRet ?_
          refine Fin.blockRet ?_
          refine Fin.thenRet ?_
          refine Fin.ret2 rfl (by conv => lhs; whnf) (by conv => lhs; whnf) ?_
          exact ⟨_, rfl, by unfold cgV cgC; rw [if_neg (show ¬ cgOk ps ds ns from fun h => by have := h.1; omega), if_neg (show ¬ ncC ps ds ns = 0 by omega), hno], hE13.trans hE4⟩
        · with_reducible first | (replace hc2 := deNF hc2) | (replace hc2 := of_decide_eq_true hc2) | (replace hc2 := of_decide_eq_false hc2) | (replace hc2 := deNT hc2) | (replace hc2 := deNN hc2) | (replace hc2 := bnT hc2) | (replace hc2 := bnF hc2) | skip
          refine CW.skip ?_
          refine Fin.blockNormal ?_
          refine Fin.next ?_
          refine CW.region ?_
          refine RL.y rfl (y_mov (v := .int _ _) rfl) ?_
          refine RL.y rfl (y_add rfl rfl (IntWalk.i64_in _ (by omega))) ?_
          refine RL.y rfl (y_asg (v := .int _ _) rfl) ?_
          refine RL.nil ?_
          refine Fin.le ?_
          exact ⟨ns.length - (i + 1), by omega, i + 1, rfl, hlti, ⟨rfl, rfl, rfl, trivial⟩, all_snoc hlti hall hc2, hE3.trans hE4⟩
      · with_reducible first | (replace hci := deNF hci) | (replace hci := of_decide_eq_true hci) | (replace hci := of_decide_eq_false hci) | (replace hci := deNT hci) | (replace hci := deNN hci) | (replace hci := bnT hci) | (replace hci := bnF hci) | skip
        obtain rfl : ns.length = i := by omega
        rw [List.take_length] at hall
        have hc : ncC ps ds ns = 0 := ncC_zero.2 ⟨hbl, hall⟩
        have hE13 := hE1.trans hE3
        refine CW.exit ?_
        refine Fin.thenExit ?_
        refine Fin.thenExit ?_
        refine Fin.blockHit ?_
        refine Fin.next ?_
        refine CW.seq ?_
        refine CW.seq ?_
        refine CW.region ?_
        refine RL.y rfl (y_mov (by conv => lhs; whnf)) ?_
        refine RL.y rfl (y_len sT22 hu (ints_len _) rfl) ?_
        refine RL.call rfl (l01In_any) ?_
        rintro r w4 ⟨rfl, rfl⟩
        refine RL.y rfl (y_not rfl) ?_
        refine RL.nil ?_
        refine Fin.next ?_
        refine CW.cond rfl rfl (fun hl => ?_) (fun hl => ?_)
        · with_reducible first | (replace hl := deNF hl) | (replace hl := of_decide_eq_true hl) | (replace hl := of_decide_eq_false hl) | (replace hl := deNT hl) | (replace hl := deNN hl) | (replace hl := bnT hl) | (replace hl := bnF hl) | skip
          refine CW.seq ?_
          refine CW.region ?_
          refine RL.y rfl (y_asg rfl) ?_
          refine RL.y rfl (y_asg rfl) ?_
          refine RL.nil ?_
          refine Fin.next ?_
          refine CW.ret ?_
          refine Fin.thenRet ?_
          refine Fin.ret2 rfl (by conv => lhs; whnf) (by conv => lhs; whnf) ?_
          exact ⟨_, rfl, by unfold cgV cgC; rw [if_pos hc, if_neg (fun h => hl ⟨by have := h.2.1; omega, by have := h.2.2; omega⟩), if_neg (fun h => hl ⟨by omega, by omega⟩)], hE13⟩
        · with_reducible first | (replace hl := deNF hl) | (replace hl := of_decide_eq_true hl) | (replace hl := of_decide_eq_false hl) | (replace hl := deNT hl) | (replace hl := deNN hl) | (replace hl := bnT hl) | (replace hl := bnF hl) | skip
          refine CW.skip ?_
          refine Fin.next ?_
          refine CW.seq ?_
          refine CW.region ?_
          refine RL.y rfl (y_asg rfl) ?_
          refine RL.nil ?_
          refine Fin.next ?_
          refine CW.seq ?_
          refine CW.seq ?_
          refine CW.region ?_
          refine RL.y rfl (y_asg rfl) ?_
          refine RL.nil ?_
          refine Fin.next ?_
          refine CW.block ?_
          refine CW.loop (fun m E w' => ∃ g : Nat, m = ps.length - g ∧ g ≤ ps.length ∧ agrees E [(1, u), (2, .pointer (some ⟨w.heap.size, 0, none⟩)), (7, .int .i64 (cgTo ps ns g)), (8, .int .i64 (g : Int))] ∧ Ext w1 w') _ ⟨0, rfl, Nat.zero_le _, ⟨rfl, rfl, rfl, rfl, trivial⟩, hE3⟩ ?_
          · rintro m E w5 ⟨g, rfl, hkg, hagg, hE5⟩
            refine CW.re _ hagg rfl ?_
            clear hagg
            refine CW.seq ?_
            refine CW.seq ?_
            refine CW.region ?_
            refine RL.y rfl (y_mov (v := .int _ _) rfl) ?_
            refine RL.y rfl (y_fa fa28_0 rfl rfl) ?_
            refine RL.y rfl (y_loadv sc22 (eqw (hV.ext hE5)) rfl rfl) ?_
            refine RL.y rfl (y_len sT22 hp (ints_len _) rfl) ?_
            refine RL.y rfl (y_lt rfl rfl) ?_
            refine RL.nil ?_
            refine Fin.next ?_
            refine CW.cond rfl rfl (fun hcg => ?_) (fun hcg => ?_)
            · with_reducible first | (replace hcg := deNF hcg) | (replace hcg := of_decide_eq_true hcg) | (replace hcg := of_decide_eq_false hcg) | (replace hcg := deNT hcg) | (replace hcg := deNN hcg) | (replace hcg := bnT hcg) | (replace hcg := bnF hcg) | skip
              have hltg : g < ps.length := by omega
              refine CW.skip ?_
              refine Fin.next ?_
              refine CW.seq ?_
              refine CW.block ?_
              refine CW.seq ?_
              refine CW.region ?_
              refine RL.y rfl (y_asg rfl) ?_
              refine RL.nil ?_
              refine Fin.next ?_
              refine CW.seq ?_
              refine CW.seq ?_
              refine CW.region ?_
              refine RL.y rfl (y_asg rfl) ?_
              refine RL.nil ?_
              refine Fin.next ?_
              refine CW.block ?_
              refine CW.loop (fun m E w' => ∃ j : Nat, m = ns.length - j ∧ j ≤ ns.length ∧ agrees E [(1, u), (2, .pointer (some ⟨w.heap.size, 0, none⟩)), (7, .int .i64 (cgTo ps ns g)), (8, .int .i64 (g : Int)), (9, .bool (decide (allU ps (ns.take j) (g : Int)))), (10, .int .i64 (j : Int))] ∧ Ext w1 w') _ ⟨0, rfl, Nat.zero_le _, ⟨rfl, rfl, rfl, rfl, congrArg Value.bool (decide_eq_true (by simp [allU])).symm, rfl, trivial⟩, hE5⟩ ?_
              · rintro m E w6 ⟨j, rfl, hkj, hagj, hE6⟩
                refine CW.re _ hagj rfl ?_
                clear hagj
                refine CW.seq ?_
                refine CW.seq ?_
                refine CW.region ?_
                refine RL.y rfl (y_mov (v := .int _ _) rfl) ?_
                refine RL.y rfl (y_mov (by conv => lhs; whnf)) ?_
                refine RL.y rfl (y_len sT22 hu (ints_len _) rfl) ?_
                refine RL.y rfl (y_lt rfl rfl) ?_
                refine RL.nil ?_
                refine Fin.next ?_
                refine CW.cond rfl rfl (fun hcj => ?_) (fun hcj => ?_)
                · with_reducible first | (replace hcj := deNF hcj) | (replace hcj := of_decide_eq_true hcj) | (replace hcj := of_decide_eq_false hcj) | (replace hcj := deNT hcj) | (replace hcj := deNN hcj) | (replace hcj := bnT hcj) | (replace hcj := bnF hcj) | skip
                  have hltj : j < ns.length := by omega
                  have hE16 := hE1.trans hE6
                  have hxj := hall _ (List.getElem_mem hltj)
                  have hta : allU ps (ns.take (j + 1)) (g : Int) ↔ allU ps (ns.take j) (g : Int) ∧ under ps ns[j] (g : Int) := take_all hltj
                  refine CW.skip ?_
                  refine Fin.next ?_
                  refine CW.seq ?_
                  refine CW.block ?_
                  refine CW.quietE mixed (by kernel_rfl) ?_
                  refine QL.y rfl (y_mov (v := .bool _) rfl) ?_
                  refine QL.y rfl (y_mov (v := .bool _) rfl) ?_
                  refine QL.split (t := 45) rfl rfl (fun ha => ?_) (fun ha => ?_)
                  · with_reducible first | (replace ha := deNF ha) | (replace ha := of_decide_eq_true ha) | (replace ha := of_decide_eq_false ha) | (replace ha := deNT ha) | (replace ha := deNN ha) | (replace ha := bnT ha) | (replace ha := bnF ha) | skip
                    refine QL.take (t := 45) rfl rfl rfl ?_
                    refine QL.y rfl (y_loads ag28 rfl (fun _ hC => (hV.ext hE6).ext hC) rfl) ?_
                    refine QL.take (t := 45) rfl rfl rfl ?_
                    refine QL.y rfl (y_mov (by conv => lhs; whnf)) ?_
                    refine QL.take (t := 45) rfl rfl rfl ?_
                    refine QL.y rfl (y_mov (v := .int _ _) rfl) ?_
                    refine QL.take (t := 45) rfl rfl rfl ?_
                    refine QL.y rfl (y_ixa sT22 (fun _ hC => (hu.ext hE16).ext hC) (k := j) (ints_lt hltj) rfl rfl) ?_
                    refine QL.take (t := 45) rfl rfl rfl ?_
                    refine QL.y rfl (y_load sc2 (fun _ hC => (hu.ext hE16).ext hC) (ints_at hltj) rfl) ?_
                    refine QL.take (t := 45) rfl rfl rfl ?_
                    refine QL.y rfl (y_mov (v := .int _ _) rfl) ?_
                    refine QL.take (t := 45) rfl rfl rfl ?_
                    refine QL.call rfl (fun _ hC => qc hC (l09Under_any ((hb0.ext hE16).ext hC) ht (by omega) h24.2)) ?_
                    refine QL.y rfl (y_pickT (v := .bool _) rfl rfl) ?_
                    refine QL.y rfl (y_asg (v := .bool _) rfl) ?_
                    refine QL.nil (fun w7 hE7 => ?_)
                    refine Fin.blockNormal ?_
                    refine Fin.next ?_
                    refine CW.region ?_
                    refine RL.y rfl (y_mov (v := .int _ _) rfl) ?_
                    refine RL.y rfl (y_add rfl rfl (IntWalk.i64_in _ (by omega))) ?_
                    refine RL.y rfl (y_asg (v := .int _ _) rfl) ?_
                    refine RL.nil ?_
                    refine Fin.le ?_
                    exact ⟨ns.length - (j + 1), by omega, j + 1, rfl, hltj, ⟨rfl, rfl, rfl, rfl, bD ⟨fun h => hta.2 ⟨ha, h⟩, fun h => (hta.1 h).2⟩, rfl, trivial⟩, hE6.trans hE7⟩
                  · with_reducible first | (replace ha := deNF ha) | (replace ha := of_decide_eq_true ha) | (replace ha := of_decide_eq_false ha) | (replace ha := deNT ha) | (replace ha := deNN ha) | (replace ha := bnT ha) | (replace ha := bnF ha) | skip
                    refine QL.pass (t := 45) rfl rfl rfl rfl ?_
                    refine QL.pass (t := 45) rfl rfl rfl rfl ?_
                    refine QL.pass (t := 45) rfl rfl rfl rfl ?_
                    refine QL.pass (t := 45) rfl rfl rfl rfl ?_
                    refine QL.pass (t := 45) rfl rfl rfl rfl ?_
                    refine QL.pass (t := 45) rfl rfl rfl rfl ?_
                    refine QL.pass (t := 45) rfl rfl rfl rfl ?_
                    refine QL.y rfl (y_pickF (v := .bool _) rfl rfl) ?_
                    refine QL.y rfl (y_asg (v := .bool _) rfl) ?_
                    refine QL.nil (fun w7 hE7 => ?_)
                    refine Fin.blockNormal ?_
                    refine Fin.next ?_
                    refine CW.region ?_
                    refine RL.y rfl (y_mov (v := .int _ _) rfl) ?_
                    refine RL.y rfl (y_add rfl rfl (IntWalk.i64_in _ (by omega))) ?_
                    refine RL.y rfl (y_asg (v := .int _ _) rfl) ?_
                    refine RL.nil ?_
                    refine Fin.le ?_
                    exact ⟨ns.length - (j + 1), by omega, j + 1, rfl, hltj, ⟨rfl, rfl, rfl, rfl, bF (fun h => ha (hta.1 h).1), rfl, trivial⟩, hE6.trans hE7⟩
                · with_reducible first | (replace hcj := deNF hcj) | (replace hcj := of_decide_eq_true hcj) | (replace hcj := of_decide_eq_false hcj) | (replace hcj := deNT hcj) | (replace hcj := deNN hcj) | (replace hcj := bnT hcj) | (replace hcj := bnF hcj) | skip
                  obtain rfl : ns.length = j := by omega
                  rw [List.take_length]
                  refine CW.exit ?_
                  refine Fin.thenExit ?_
                  refine Fin.thenExit ?_
                  refine Fin.blockHit ?_
                  refine Fin.next ?_
                  refine CW.seq ?_
                  refine CW.region ?_
                  refine RL.y rfl (y_mov (v := .bool _) rfl) ?_
                  refine RL.nil ?_
                  refine Fin.next ?_
                  refine CW.cond rfl rfl (fun ha => ?_) (fun ha => ?_)
                  · with_reducible first | (replace ha := deNF ha) | (replace ha := of_decide_eq_true ha) | (replace ha := of_decide_eq_false ha) | (replace ha := deNT ha) | (replace ha := deNN ha) | (replace ha := bnT ha) | (replace ha := bnF ha) | skip
                    refine CW.region ?_
                    refine RL.y rfl (y_mov (v := .int _ _) rfl) ?_
                    refine RL.y rfl (y_asg (v := .int _ _) rfl) ?_
                    refine RL.nil ?_
                    refine Fin.blockNormal ?_
                    refine Fin.next ?_
                    refine CW.region ?_
                    refine RL.y rfl (y_mov (v := .int _ _) rfl) ?_
                    refine RL.y rfl (y_add rfl rfl (IntWalk.i64_in _ (by omega))) ?_
                    refine RL.y rfl (y_asg (v := .int _ _) rfl) ?_
                    refine RL.nil ?_
                    refine Fin.le ?_
                    exact ⟨ps.length - (g + 1), by omega, g + 1, rfl, hltg, ⟨rfl, rfl, by rw [cgTo_yes ha]; rfl, rfl, trivial⟩, hE6⟩
                  · with_reducible first | (replace ha := deNF ha) | (replace ha := of_decide_eq_true ha) | (replace ha := of_decide_eq_false ha) | (replace ha := deNT ha) | (replace ha := deNN ha) | (replace ha := bnT ha) | (replace ha := bnF ha) | skip
                    refine CW.skip ?_
                    refine Fin.blockNormal ?_
                    refine Fin.next ?_
                    refine CW.region ?_
                    refine RL.y rfl (y_mov (v := .int _ _) rfl) ?_
                    refine RL.y rfl (y_add rfl rfl (IntWalk.i64_in _ (by omega))) ?_
                    refine RL.y rfl (y_asg (v := .int _ _) rfl) ?_
                    refine RL.nil ?_
                    refine Fin.le ?_
                    exact ⟨ps.length - (g + 1), by omega, g + 1, rfl, hltg, ⟨rfl, rfl, by rw [cgTo_no ha]; rfl, rfl, trivial⟩, hE6⟩
            · with_reducible first | (replace hcg := deNF hcg) | (replace hcg := of_decide_eq_true hcg) | (replace hcg := of_decide_eq_false hcg) | (replace hcg := deNT hcg) | (replace hcg := deNN hcg) | (replace hcg := bnT hcg) | (replace hcg := bnF hcg) | skip
              obtain rfl : ps.length = g := by omega
              refine CW.exit ?_
              refine Fin.thenExit ?_
              refine Fin.thenExit ?_
              refine Fin.blockHit ?_
              refine Fin.next ?_
              refine CW.seq ?_
              refine CW.region ?_
              refine RL.y rfl (y_mov (v := .int _ _) rfl) ?_
              refine RL.y rfl (y_asg (v := .int _ _) rfl) ?_
              refine RL.y rfl (y_asg rfl) ?_
              refine RL.nil ?_
              refine Fin.next ?_
              refine CW.ret ?_
              refine Fin.ret2 rfl (by conv => lhs; whnf) (by conv => lhs; whnf) ?_
              exact ⟨_, rfl, by unfold cgV cgC; rw [if_pos hc, if_pos ⟨hc, by omega, by omega⟩, if_pos ⟨by omega, by omega⟩], hE1.trans hE5⟩
end Go.Proofs.Ytebegkegkdmbjaa
