/-
  HeightOf.
-/
import Derived.Test.YtebegkegkdmbjaaFBld4
import Derived.Test.YtebegkegkdmbjaaCut
namespace Go.Proofs.Ytebegkegkdmbjaa
open B Go.RowKit

theorem specHeightOf_any {w : World} {b : Value} {ps : List Int} {ds : List Bool} (hb : RdB w b ps ds) :
    Does Try.prog 16 #[b] w (fun r w' => r = .tuple #[.int .i64 (hiV ps ds), .int .i64 (ncC ps ds [])] ∧ Ext w w') := by
  have hb0 := hb
  obtain ⟨vp, vd, rfl, hp, hd⟩ := hb
  have hpl := SI.le hp
  refine enter Try.func16 rfl 23 Try.ntmps16 rfl (by kernel_rfl) ?_
  refine CW.seq ?_
  refine CW.region ?_
  refine RL.box (cs := [vp, vd]) rfl rfl rfl (fun w1 hV hE1 => ?_)
  refine RL.y rfl (y_asg rfl) ?_
  refine RL.y rfl (y_asg rfl) ?_
  refine RL.nil ?_
  refine Fin.next ?_
  refine CW.seq ?_
  refine CW.seq ?_
  refine CW.region ?_
  refine RL.y rfl (y_loads ag28 rfl (eqw (hV)) rfl) ?_
  refine RL.call rfl (specIsBuilding_any (hb0.ext hE1)) ?_
  rintro r w2 ⟨rfl, hE2⟩
  have hE12 := hE1.trans hE2
  refine RL.y rfl (y_not rfl) ?_
  refine RL.nil ?_
  refine Fin.next ?_
  refine CW.cond rfl rfl (fun hc => ?_) (fun hc => ?_)
  · with_reducible first | (replace hc := deNF hc) | (replace hc := of_decide_eq_true hc) | (replace hc := of_decide_eq_false hc) | (replace hc := deNT hc) | (replace hc := deNN hc) | (replace hc := bnT hc) | (replace hc := bnF hc) | skip
    have hno : ncC ps ds [] = 1 := if_neg hc
    refine CW.seq ?_
    refine CW.region ?_
    refine RL.y rfl (y_asg rfl) ?_
    refine RL.y rfl (y_asg rfl) ?_
    refine RL.nil ?_
    refine Fin.next ?_
    refine CW.ret ?_
    refine Fin.thenRet ?_
    refine Fin.ret2 rfl (by conv => lhs; whnf) (by conv => lhs; whnf) ?_
    exact ⟨_, rfl, by rw [hno, hiV, if_neg (by omega)], hE12⟩
  · with_reducible first | (replace hc := deNF hc) | (replace hc := of_decide_eq_true hc) | (replace hc := of_decide_eq_false hc) | (replace hc := deNT hc) | (replace hc := deNN hc) | (replace hc := bnT hc) | (replace hc := bnF hc) | skip
    have hyes : ncC ps ds [] = 0 := ncC_zero.2 ⟨hc, by simp⟩
    have h24 := hc.1.1
    refine CW.skip ?_
    refine Fin.next ?_
    refine CW.seq ?_
    refine CW.region ?_
    refine RL.y rfl (y_asg rfl) ?_
    refine RL.nil ?_
    refine Fin.next ?_
    refine CW.seq ?_
    refine CW.seq ?_
    refine CW.region ?_
    refine RL.y rfl (y_asg rfl) ?_
    refine RL.nil ?_
    refine Fin.next ?_
    refine CW.block ?_
    refine CW.loop (fun m E w' => ∃ i : Nat, m = ps.length - i ∧ i ≤ ps.length ∧ agrees E [(1, .pointer (some ⟨w.heap.size, 0, none⟩)), (4, .int .i64 (hiTo ps i : Nat)), (5, .int .i64 (i : Int))] ∧ Ext w1 w') _ ⟨0, rfl, Nat.zero_le _, ⟨rfl, rfl, rfl, trivial⟩, hE2⟩ ?_
    · rintro m E w3 ⟨i, rfl, hki, hagi, hE3⟩
      refine CW.re _ hagi rfl ?_
      clear hagi
      refine CW.seq ?_
      refine CW.seq ?_
      refine CW.region ?_
      refine RL.y rfl (y_mov (v := .int _ _) rfl) ?_
      refine RL.y rfl (y_fa fa28_0 rfl rfl) ?_
      refine RL.y rfl (y_loadv sc22 (eqw (hV.ext hE3)) rfl rfl) ?_
      refine RL.y rfl (y_len sT22 hp (ints_len _) rfl) ?_
      refine RL.y rfl (y_lt rfl rfl) ?_
      refine RL.nil ?_
      refine Fin.next ?_
      refine CW.cond rfl rfl (fun hci => ?_) (fun hci => ?_)
      · with_reducible first | (replace hci := deNF hci) | (replace hci := of_decide_eq_true hci) | (replace hci := of_decide_eq_false hci) | (replace hci := deNT hci) | (replace hci := deNN hci) | (replace hci := bnT hci) | (replace hci := bnF hci) | skip
        have hlti : i < ps.length := by omega
        have hE13 := hE1.trans hE3
        refine CW.skip ?_
        refine Fin.next ?_
        refine CW.seq ?_
        refine CW.block ?_
        refine CW.region ?_
        refine RL.y rfl (y_mov (v := .int _ _) rfl) ?_
        refine RL.y rfl (y_loads ag28 rfl (eqw (hV.ext hE3)) rfl) ?_
        refine RL.y rfl (y_mov (v := .int _ _) rfl) ?_
        refine RL.call rfl (l09Ancestors_any (hb0.ext hE13) (bld_tree hc) (by omega) h24.2) ?_
        rintro v4 w4 ⟨ho, hE4⟩
        refine RL.y rfl (y_len sT22 ho.sv (ints_len _) rfl) ?_
        refine RL.y rfl (y_maxN rfl rfl) ?_
        refine RL.y rfl (y_asg (v := .int _ _) rfl) ?_
        refine RL.nil ?_
        refine Fin.blockNormal ?_
        refine Fin.next ?_
        refine CW.region ?_
        refine RL.y rfl (y_mov (v := .int _ _) rfl) ?_
        refine RL.y rfl (y_add rfl rfl (IntWalk.i64_in _ (by omega))) ?_
        refine RL.y rfl (y_asg (v := .int _ _) rfl) ?_
        refine RL.nil ?_
        refine Fin.le ?_
        exact ⟨ps.length - (i + 1), by omega, i + 1, rfl, hlti, ⟨rfl, rfl, rfl, trivial⟩, hE3.trans hE4⟩
      · with_reducible first | (replace hci := deNF hci) | (replace hci := of_decide_eq_true hci) | (replace hci := of_decide_eq_false hci) | (replace hci := deNT hci) | (replace hci := deNN hci) | (replace hci := bnT hci) | (replace hci := bnF hci) | skip
        obtain rfl : ps.length = i := by omega
        refine CW.exit ?_
        refine Fin.thenExit ?_
        refine Fin.thenExit ?_
        refine Fin.blockHit ?_
        refine Fin.next ?_
        refine CW.seq ?_
        refine CW.region ?_
        refine RL.y rfl (y_mov (v := .int _ _) rfl) ?_
        refine RL.y rfl (y_asg (v := .int _ _) rfl) ?_
        refine RL.y rfl (y_asg rfl) ?_
        refine RL.nil ?_
        refine Fin.next ?_
        refine CW.ret ?_
        refine Fin.ret2 rfl (by conv => lhs; whnf) (by conv => lhs; whnf) ?_
        exact ⟨_, rfl, by rw [hyes, hiV, if_pos hyes], hE1.trans hE3⟩

theorem implHeightOf_any {w : World} {b : Value} {ps : List Int} {ds : List Bool} (hb : RdB w b ps ds) :
    Does Try.prog 17 #[b] w (fun r w' => r = .tuple #[.int .i64 (hiV ps ds), .int .i64 (ncC ps ds [])] ∧ Ext w w') := by
  have hb0 := hb
  obtain ⟨vp, vd, rfl, hp, hd⟩ := hb
  have hpl := SI.le hp
  refine enter Try.func17 rfl 26 Try.ntmps17 rfl (by kernel_rfl) ?_
  refine CW.seq ?_
  refine CW.region ?_
  refine RL.box (cs := [vp, vd]) rfl rfl rfl (fun w1 hV hE1 => ?_)
  refine RL.y rfl (y_asg rfl) ?_
  refine RL.y rfl (y_asg rfl) ?_
  refine RL.nil ?_
  refine Fin.next ?_
  refine CW.seq ?_
  refine CW.seq ?_
  refine CW.region ?_
  refine RL.y rfl (y_loads ag28 rfl (eqw (hV)) rfl) ?_
  refine RL.call rfl (nodeCode_any (ks := []) (hb0.ext hE1) (SV.nil _)) ?_
  rintro r w2 ⟨rfl, hE2⟩
  have hE12 := hE1.trans hE2
  refine RL.y rfl (y_asg (v := .int _ _) rfl) ?_
  refine RL.nil ?_
  refine Fin.next ?_
  refine CW.seq ?_
  refine CW.region ?_
  refine RL.y rfl (y_mov (v := .int _ _) rfl) ?_
  refine RL.y rfl (y_ne rfl rfl) ?_
  refine RL.nil ?_
  refine Fin.next ?_
  refine CW.cond rfl rfl (fun hc0 => ?_) (fun hc0 => ?_)
  · with_reducible first | (replace hc0 := deNF hc0) | (replace hc0 := of_decide_eq_true hc0) | (replace hc0 := of_decide_eq_false hc0) | (replace hc0 := deNT hc0) | (replace hc0 := deNN hc0) | (replace hc0 := bnT hc0) | (replace hc0 := bnF hc0) | skip
    refine CW.seq ?_
    refine CW.region ?_
    refine RL.y rfl (y_mov (v := .int _ _) rfl) ?_
    refine RL.y rfl (y_asg rfl) ?_
    refine RL.y rfl (y_asg (v := .int _ _) rfl) ?_
    refine RL.nil ?_
    refine Fin.next ?_
    refine CW.ret ?_
    refine Fin.thenRet ?_
    refine Fin.ret2 rfl (by conv => lhs; whnf) (by conv => lhs; whnf) ?_
    exact ⟨_, rfl, by rw [hiV, if_neg hc0], hE12⟩
  · with_reducible first | (replace hc0 := deNF hc0) | (replace hc0 := of_decide_eq_true hc0) | (replace hc0 := of_decide_eq_false hc0) | (replace hc0 := deNT hc0) | (replace hc0 := deNN hc0) | (replace hc0 := bnT hc0) | (replace hc0 := bnF hc0) | skip
    have hc := (ncC_zero.1 hc0).1
    have h24 := hc.1.1
    refine CW.skip ?_
    refine Fin.next ?_
    refine CW.seq ?_
    refine CW.region ?_
    refine RL.y rfl (y_asg rfl) ?_
    refine RL.nil ?_
    refine Fin.next ?_
    refine CW.seq ?_
    refine CW.seq ?_
    refine CW.region ?_
    refine RL.y rfl (y_fa fa28_0 rfl rfl) ?_
    refine RL.y rfl (y_loadv sc22 (eqw (hV.ext hE2)) rfl rfl) ?_
    refine RL.y rfl (y_len sT22 hp (ints_len _) rfl) ?_
    refine RL.y rfl (y_mov rfl) ?_
    refine RL.nil ?_
    refine Fin.next ?_
    refine CW.block ?_
    refine CW.loop (fun m E w' => ∃ i : Nat, m = ps.length - i ∧ i ≤ ps.length ∧ agrees E [(1, .pointer (some ⟨w.heap.size, 0, none⟩)), (14, .int .i64 ps.length), (5, .int .i64 (hiTo ps i : Nat)), (15, .int .i64 (i : Int))] ∧ Ext w1 w') _ ⟨0, rfl, Nat.zero_le _, ⟨rfl, rfl, rfl, rfl, trivial⟩, hE2⟩ ?_
    · rintro m E w3 ⟨i, rfl, hki, hagi, hE3⟩
      refine CW.re _ hagi rfl ?_
      clear hagi
      refine CW.seq ?_
      refine CW.region ?_
      refine RL.y rfl (y_lt rfl rfl) ?_
      refine RL.nil ?_
      refine Fin.next ?_
      refine CW.seq ?_
      refine CW.cond rfl rfl (fun hci => ?_) (fun hci => ?_)
      · with_reducible first | (replace hci := deNF hci) | (replace hci := of_decide_eq_true hci) | (replace hci := of_decide_eq_false hci) | (replace hci := deNT hci) | (replace hci := deNN hci) | (replace hci := bnT hci) | (replace hci := bnF hci) | skip
        have hlti : i < ps.length := by omega
        have hE13 := hE1.trans hE3
        refine CW.skip ?_
        refine Fin.next ?_
        refine CW.seq ?_
        refine CW.block ?_
        refine CW.seq ?_
        refine CW.region ?_
        refine RL.y rfl (y_mov (v := .int _ _) rfl) ?_
        refine RL.y rfl (y_asg (v := .int _ _) rfl) ?_
        refine RL.nil ?_
        refine Fin.next ?_
        refine CW.region ?_
        refine RL.y rfl (y_mov (v := .int _ _) rfl) ?_
        refine RL.y rfl (y_loads ag28 rfl (eqw (hV.ext hE3)) rfl) ?_
        refine RL.y rfl (y_mov (v := .int _ _) rfl) ?_
        refine RL.call rfl (ancestorsOf_any (hb0.ext hE13) (bld_tree hc) (by omega) h24.2) ?_
        rintro v4 w4 ⟨ho, hE4⟩
        refine RL.y rfl (y_len sT22 ho.sv (ints_len _) rfl) ?_
        refine RL.y rfl (y_maxN rfl rfl) ?_
        refine RL.y rfl (y_asg (v := .int _ _) rfl) ?_
        refine RL.nil ?_
        refine Fin.blockNormal ?_
        refine Fin.next ?_
        refine CW.region ?_
        refine RL.y rfl (y_add rfl rfl (IntWalk.i64_in _ (by omega))) ?_
        refine RL.y rfl (y_mov (v := .int _ _) rfl) ?_
        refine RL.nil ?_
        refine Fin.le ?_
        exact ⟨ps.length - (i + 1), by omega, i + 1, rfl, hlti, ⟨rfl, rfl, rfl, rfl, trivial⟩, hE3.trans hE4⟩
      · with_reducible first | (replace hci := deNF hci) | (replace hci := of_decide_eq_true hci) | (replace hci := of_decide_eq_false hci) | (replace hci := deNT hci) | (replace hci := deNN hci) | (replace hci := bnT hci) | (replace hci := bnF hci) | skip
        obtain rfl : ps.length = i := by omega
        refine CW.exit ?_
        refine Fin.thenExit ?_
        refine Fin.thenExit ?_
        refine Fin.blockHit ?_
        refine Fin.next ?_
        refine CW.seq ?_
        refine CW.region ?_
        refine RL.y rfl (y_mov (v := .int _ _) rfl) ?_
        refine RL.y rfl (y_asg (v := .int _ _) rfl) ?_
        refine RL.y rfl (y_asg rfl) ?_
        refine RL.nil ?_
        refine Fin.next ?_
        refine CW.ret ?_
        refine Fin.ret2 rfl (by conv => lhs; whnf) (by conv => lhs; whnf) ?_
        exact ⟨_, rfl, by rw [hc0, hiV, if_pos hc0], hE1.trans hE3⟩
end Go.Proofs.Ytebegkegkdmbjaa
