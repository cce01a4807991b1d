/-
  The laws' own comparison of lists of lists.
-/
import Derived.Test.YtaepdknmagaokaaFNest
import Derived.Test.YtaepdknmagaokaaFRise
namespace Go.Proofs.Ytaepdknmagaokaa
open B Go.RowKit

theorem likeLists_any {w : World} {v u : Value} {rs qs : List (List Int)} (hv : RdSS w v rs) (hu : RdSS w u qs) :
    Does Try.prog 86 #[v, u] w (fun r w' => r = .bool (decide (rs = qs)) ∧ Ext w w') := by
  obtain ⟨cs, hc⟩ := hv
  obtain ⟨ds, hd⟩ := hu
  have hxl := hc.le
  refine enter Try.func86 rfl 27 Try.ntmps86 rfl (by kernel_rfl) ?_
  refine CW.seq ?_
  refine CW.region ?_
  refine RL.y rfl (y_asg rfl) ?_
  refine RL.nil ?_
  refine Fin.next ?_
  refine CW.seq ?_
  refine CW.seq ?_
  refine CW.region ?_
  refine RL.y rfl (y_mov (by conv => lhs; whnf)) ?_
  refine RL.y rfl (y_len sT26 hc.1 hc.2.1 rfl) ?_
  refine RL.y rfl (y_mov (by conv => lhs; whnf)) ?_
  refine RL.y rfl (y_len sT26 hd.1 hd.2.1 rfl) ?_
  refine RL.y rfl (y_ne rfl rfl) ?_
  refine RL.nil ?_
  refine Fin.next ?_
  refine CW.cond rfl rfl (fun hcl => ?_) (fun hcl => ?_)
  · with_reducible first | (replace hcl := deNF hcl) | (replace hcl := of_decide_eq_true hcl) | (replace hcl := of_decide_eq_false hcl) | (replace hcl := deNT hcl) | (replace hcl := deNN hcl) | (replace hcl := bnT hcl) | (replace hcl := bnF hcl) | skip
    refine CW.seq ?_
    refine CW.region ?_
    refine RL.y rfl (y_asg rfl) ?_
    refine RL.nil ?_
    refine Fin.next ?_
    refine CW.ret ?_
    refine Fin.thenRet ?_
    refine Fin.ret1 rfl (by conv => lhs; whnf) ?_
    exact ⟨_, rfl, congrArg Value.bool (Eq.symm (decide_eq_false (fun e => by subst e; exact hcl rfl))), Ext.refl w⟩
  · with_reducible first | (replace hcl := deNF hcl) | (replace hcl := of_decide_eq_true hcl) | (replace hcl := of_decide_eq_false hcl) | (replace hcl := deNT hcl) | (replace hcl := deNN hcl) | (replace hcl := bnT hcl) | (replace hcl := bnF hcl) | skip
    have hl : rs.length = qs.length := by omega
    refine CW.skip ?_
    refine Fin.next ?_
    refine CW.seq ?_
    refine CW.seq ?_
    refine CW.region ?_
    refine RL.y rfl (y_asg rfl) ?_
    refine RL.nil ?_
    refine Fin.next ?_
    refine CW.block ?_
    refine CW.loop (fun m E w' => ∃ k : Nat, m = rs.length - k ∧ k ≤ rs.length ∧ agrees E [(0, v), (1, u), (5, .int .i64 (k : Int))] ∧ rs.take k = qs.take k ∧ Ext w w') _ ⟨0, rfl, Nat.zero_le _, ⟨rfl, rfl, rfl, trivial⟩, rfl, Ext.refl w⟩ ?_
    · rintro m E w2 ⟨k, rfl, hkk, hagk, htk, hE2⟩
      refine CW.re _ hagk rfl ?_
      clear hagk
      refine CW.seq ?_
      refine CW.seq ?_
      refine CW.region ?_
      refine RL.y rfl (y_mov (v := .int _ _) rfl) ?_
      refine RL.y rfl (y_mov (by conv => lhs; whnf)) ?_
      refine RL.y rfl (y_len sT26 hc.1 hc.2.1 rfl) ?_
      refine RL.y rfl (y_lt rfl rfl) ?_
      refine RL.nil ?_
      refine Fin.next ?_
      refine CW.cond rfl rfl (fun hck => ?_) (fun hck => ?_)
      · with_reducible first | (replace hck := deNF hck) | (replace hck := of_decide_eq_true hck) | (replace hck := of_decide_eq_false hck) | (replace hck := deNT hck) | (replace hck := deNN hck) | (replace hck := bnT hck) | (replace hck := bnF hck) | skip
        have hltk : k < rs.length := by omega
        have hlt' : k < qs.length := by omega
        refine CW.skip ?_
        refine Fin.next ?_
        refine CW.seq ?_
        refine CW.block ?_
        refine CW.seq ?_
        refine CW.quietE mixed (by kernel_rfl) ?_
        refine QL.y rfl (y_mov (by conv => lhs; whnf)) ?_
        refine QL.y rfl (y_mov (v := .int _ _) rfl) ?_
        refine QL.y rfl (y_ixa sT26 (fun _ hC => (hc.1.ext hE2).ext hC) (k := k) (hc.lt hltk) rfl rfl) ?_
        refine QL.y rfl (y_load sc29 (fun _ hC => (hc.1.ext hE2).ext hC) (hc.at hltk) rfl) ?_
        refine QL.y rfl (y_mov (by conv => lhs; whnf)) ?_
        refine QL.y rfl (y_mov (v := .int _ _) rfl) ?_
        refine QL.y rfl (y_ixa sT26 (fun _ hC => (hd.1.ext hE2).ext hC) (k := k) (hd.lt hlt') rfl rfl) ?_
        refine QL.y rfl (y_load sc29 (fun _ hC => (hd.1.ext hE2).ext hC) (hd.at hlt') rfl) ?_
        refine QL.call rfl (fun _ hC => qc hC (likeInts_any (((hc.row hltk).ext hE2).ext hC) (((hd.row hlt').ext hE2).ext hC))) ?_
        refine QL.y rfl (y_not rfl) ?_
        refine QL.nil (fun w3 hE3 => ?_)
        refine Fin.next ?_
        refine CW.cond rfl rfl (fun hc3 => ?_) (fun hc3 => ?_)
        · with_reducible first | (replace hc3 := deNF hc3) | (replace hc3 := of_decide_eq_true hc3) | (replace hc3 := of_decide_eq_false hc3) | (replace hc3 := deNT hc3) | (replace hc3 := deNN hc3) | (replace hc3 := bnT hc3) | (replace hc3 := bnF hc3) | skip
          refine CW.seq ?_
          refine CW.region ?_
          refine RL.y rfl (y_asg rfl) ?_
          refine RL.nil ?_
          refine Fin.next ?_
          refine CW.ret ?_
          refine Fin.blockRet ?_
          refine Fin.thenRet ?_
          refine Fin.thenRet ?_
          refine Fin.blockRet ?_
          refine Fin.thenRet ?_
          refine Fin.ret1 rfl (by conv => lhs; whnf) ?_
          exact ⟨_, rfl, congrArg Value.bool (Eq.symm (decide_eq_false (fun e => by subst e; exact hc3 rfl))), hE2.trans hE3⟩
        · with_reducible first | (replace hc3 := deNF hc3) | (replace hc3 := of_decide_eq_true hc3) | (replace hc3 := of_decide_eq_false hc3) | (replace hc3 := deNT hc3) | (replace hc3 := deNN hc3) | (replace hc3 := bnT hc3) | (replace hc3 := bnF hc3) | skip
          refine CW.skip ?_
          refine Fin.blockNormal ?_
          refine Fin.next ?_
          refine CW.region ?_
          refine RL.y rfl (y_mov (v := .int _ _) rfl) ?_
          refine RL.y rfl (y_add rfl rfl (IntWalk.i64_in _ (by omega))) ?_
          refine RL.y rfl (y_asg (v := .int _ _) rfl) ?_
          refine RL.nil ?_
          refine Fin.le ?_
          exact ⟨rs.length - (k + 1), by omega, k + 1, rfl, hltk, ⟨rfl, rfl, rfl, trivial⟩, by rw [List.take_succ_eq_append_getElem hltk, List.take_succ_eq_append_getElem hlt', htk, hc3], hE2.trans hE3⟩
      · with_reducible first | (replace hck := deNF hck) | (replace hck := of_decide_eq_true hck) | (replace hck := of_decide_eq_false hck) | (replace hck := deNT hck) | (replace hck := deNN hck) | (replace hck := bnT hck) | (replace hck := bnF hck) | skip
        obtain rfl : rs.length = k := by omega
        refine CW.exit ?_
        refine Fin.thenExit ?_
        refine Fin.thenExit ?_
        refine Fin.blockHit ?_
        refine Fin.next ?_
        refine CW.seq ?_
        refine CW.region ?_
        refine RL.y rfl (y_asg rfl) ?_
        refine RL.nil ?_
        refine Fin.next ?_
        refine CW.ret ?_
        refine Fin.ret1 rfl (by conv => lhs; whnf) ?_
        exact ⟨_, rfl, congrArg Value.bool (Eq.symm (decide_eq_true (by rw [List.take_length] at htk; rw [htk, hl, List.take_length]))), hE2⟩
end Go.Proofs.Ytaepdknmagaokaa
