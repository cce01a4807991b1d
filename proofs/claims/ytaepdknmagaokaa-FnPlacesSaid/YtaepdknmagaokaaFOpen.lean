/-
  All keys that a lock's sets leave.
-/
import Derived.Test.YtaepdknmagaokaaFEach3
import Derived.Test.YtaepdknmagaokaaOpen
import Derived.Test.YtaepdknmagaokaaAny
namespace Go.Proofs.Ytaepdknmagaokaa
open B Go.RowKit

theorem l01Own_any {w : World} {v : Value} {xs : List Int} (hv : SI w v xs) (hlen : xs.length ≤ 1048576) :
    Does Try.prog 100 #[v] w (fun v' w' => OV w' w.heap.size 2 v' (ints xs) ∧ Ext w w') := by
  refine enter Try.func100 rfl 6 Try.ntmps100 rfl (by kernel_rfl) ?_
  refine CW.seq ?_
  refine CW.region ?_
  refine RL.y rfl (y_asg rfl) ?_
  refine RL.nil ?_
  refine Fin.next ?_
  refine CW.seq ?_
  refine CW.region ?_
  refine RL.lit0 rfl sT29 (fun vo w1 ho1 hE1 hb1 => ?_)
  refine RL.y rfl (y_mov (by conv => lhs; whnf)) ?_
  refine RL.app rfl sT29 ho1 (hv.ext hE1) (ints_one _) (by simp [ints]; omega) (by simp [ints]; omega) hE1.size rfl rfl (fun v2 w2 ho2 hg2 hn2 => ?_)
  refine RL.y rfl (y_asg (by conv => lhs; whnf)) ?_
  refine RL.nil ?_
  refine Fin.next ?_
  refine CW.ret ?_
  refine Fin.ret1 rfl (by conv => lhs; whnf) ?_
  exact ⟨_, rfl, by simpa using ho2, hE1.grown hg2 (fun b hb => (ho1.lt b hb).1)⟩

theorem l02Begins_any {w : World} {q : Mk} {v : Value} {cs : List Int} (hm : mkOk q) (hcut : cuts q cs) (hv : SI w v cs) :
    Does Try.prog 98 #[mkA q, v] w (fun r w' => r = .bool (decide (bgn q cs)) ∧ Ext w w') := by
  have hcl := SI.le hv
  obtain ⟨⟨m1, m2⟩, ⟨m3, m4⟩, ⟨m5, m6⟩, ⟨m7, m8⟩, ⟨m9, m10⟩⟩ := id hm
  have hcb : ∀ i (hi : i < cs.length), 0 ≤ cs[i] ∧ cs[i] ≤ q.dp - 1 := fun i hi => hcut _ (List.getElem_mem hi)
  refine enter Try.func98 rfl 53 Try.ntmps98 rfl (by kernel_rfl) ?_
  refine CW.seq ?_
  refine CW.region ?_
  refine RL.box (cs := [.int .i64 q.ch, .int .i64 q.dp, .int .i64 q.st, .int .i64 q.sm, .int .i64 q.le]) rfl rfl rfl (fun w1 hV hE => ?_)
  refine RL.y rfl (y_asg rfl) ?_
  refine RL.nil ?_
  refine Fin.next ?_
  refine CW.seq ?_
  refine CW.region ?_
  refine RL.y rfl (y_asg rfl) ?_
  refine RL.nil ?_
  refine Fin.next ?_
  refine CW.seq ?_
  refine CW.seq ?_
  refine CW.region ?_
  refine RL.y rfl (y_asg rfl) ?_
  refine RL.nil ?_
  refine Fin.next ?_
  refine CW.block ?_
  refine CW.loop (fun m E w' => ∃ k : Nat, m = cs.length - k ∧ k ≤ cs.length ∧ agrees E [(2, .pointer (some ⟨w.heap.size, 0, none⟩)), (1, v), (5, .int .i64 ((rnp cs k : Nat) : Int)), (6, .int .i64 (k : Int))] ∧ steps q cs k ∧ runs q cs k ∧ Ext w1 w') _ ⟨0, rfl, Nat.zero_le _, ⟨rfl, rfl, rfl, rfl, trivial⟩, (fun i hi => absurd hi (Nat.not_lt_zero i)), (fun i hi => absurd hi (Nat.not_lt_zero i)), Ext.refl _⟩ ?_
  · rintro m E w3 ⟨k, rfl, hkk, hagk, hst, hru, hE3⟩
    refine CW.re _ hagk rfl ?_
    clear hagk
    refine CW.seq ?_
    refine CW.seq ?_
    refine CW.region ?_
    refine RL.y rfl (y_mov (v := .int _ _) rfl) ?_
    refine RL.y rfl (y_mov (by conv => lhs; whnf)) ?_
    refine RL.y rfl (y_len sT29 hv (ints_len _) rfl) ?_
    refine RL.y rfl (y_lt rfl rfl) ?_
    refine RL.nil ?_
    refine Fin.next ?_
    refine CW.cond rfl rfl (fun hck => ?_) (fun hck => ?_)
    · with_reducible first | (replace hck := deNF hck) | (replace hck := of_decide_eq_true hck) | (replace hck := of_decide_eq_false hck) | (replace hck := deNT hck) | (replace hck := deNN hck) | (replace hck := bnT hck) | (replace hck := bnF hck) | skip
      have hltk : k < cs.length := by omega
      have hk0 := hcb k hltk
      have hrp := rnp_le cs k
      have hrl := rn_le cs k
      have hr1 := rn_pos cs k
      have hv3 := (hv.ext hE).ext hE3
      have hV3 := hV.ext hE3
      have g0 : cs.getD k 0 = cs[k] := getD_lt hltk
      refine CW.skip ?_
      refine Fin.next ?_
      refine CW.seq ?_
      refine CW.block ?_
      refine CW.cut (fun E w' => agrees E [(2, .pointer (some ⟨w.heap.size, 0, none⟩)), (1, v), (5, .int .i64 (((rn cs k : Nat) : Int) - 1)), (6, .int .i64 (k : Int))] ∧ Ext w3 w') ?_ ?_
      · refine CW.seq ?_
        refine CW.quietE mixed (by kernel_rfl) ?_
        refine QL.y rfl (y_mov (v := .int _ _) rfl) ?_
        refine QL.y rfl (y_gt rfl rfl) ?_
        refine QL.y rfl (y_mov (v := .bool _) rfl) ?_
        refine QL.split (t := 15) rfl rfl (fun hb => ?_) (fun hb => ?_)
        · with_reducible first | (replace hb := deNF hb) | (replace hb := of_decide_eq_true hb) | (replace hb := of_decide_eq_false hb) | (replace hb := deNT hb) | (replace hb := deNN hb) | (replace hb := bnT hb) | (replace hb := bnF hb) | skip
          have hk1 : k - 1 < cs.length := by omega
          have g1 : cs.getD (k - 1) 0 = cs[k - 1] := getD_lt hk1
          refine QL.take (t := 15) rfl rfl rfl ?_
          refine QL.y rfl (y_mov (by conv => lhs; whnf)) ?_
          refine QL.take (t := 15) rfl rfl rfl ?_
          refine QL.y rfl (y_mov (v := .int _ _) rfl) ?_
          refine QL.take (t := 15) rfl rfl rfl ?_
          refine QL.y rfl (y_ixa sT29 (fun _ hC => (hv3).ext hC) (k := k) (ints_lt hltk) rfl rfl) ?_
          refine QL.take (t := 15) rfl rfl rfl ?_
          refine QL.y rfl (y_load sc2 (fun _ hC => (hv3).ext hC) (ints_at hltk) rfl) ?_
          refine QL.take (t := 15) rfl rfl rfl ?_
          refine QL.y rfl (y_mov (by conv => lhs; whnf)) ?_
          refine QL.take (t := 15) rfl rfl rfl ?_
          refine QL.y rfl (y_mov (v := .int _ _) rfl) ?_
          refine QL.take (t := 15) rfl rfl rfl ?_
          refine QL.y rfl (y_sub rfl rfl ((show IntKind.i64.wrap ((k : Int) - 1) = ((k - 1 : Nat) : Int) by rw [IntWalk.i64_in _ (by omega)]; omega))) ?_
          refine QL.take (t := 15) rfl rfl rfl ?_
          refine QL.y rfl (y_ixa sT29 (fun _ hC => (hv3).ext hC) (k := k - 1) (ints_lt hk1) rfl rfl) ?_
          refine QL.take (t := 15) rfl rfl rfl ?_
          refine QL.y rfl (y_load sc2 (fun _ hC => (hv3).ext hC) (ints_at hk1) rfl) ?_
          refine QL.take (t := 15) rfl rfl rfl ?_
          refine QL.y rfl (y_ne rfl rfl) ?_
          refine QL.y rfl (y_pickT (v := .bool _) rfl rfl) ?_
          refine QL.nil (fun w4 hE4 => ?_)
          refine Fin.next ?_
          refine CW.cond rfl rfl (fun hc4 => ?_) (fun hc4 => ?_)
          · with_reducible first | (replace hc4 := deNF hc4) | (replace hc4 := of_decide_eq_true hc4) | (replace hc4 := of_decide_eq_false hc4) | (replace hc4 := deNT hc4) | (replace hc4 := deNN hc4) | (replace hc4 := bnT hc4) | (replace hc4 := bnF hc4) | skip
            have hr2 : rn cs k = 1 := rn_new (by omega) (by rw [g0, g1]; exact hc4)
            refine CW.region ?_
            refine RL.y rfl (y_asg rfl) ?_
            refine RL.nil ?_
            refine Fin.le ?_
            exact ⟨⟨rfl, rfl, congrArg (Value.int .i64) (by omega), rfl, trivial⟩, hE4⟩
          · with_reducible first | (replace hc4 := deNF hc4) | (replace hc4 := of_decide_eq_true hc4) | (replace hc4 := of_decide_eq_false hc4) | (replace hc4 := deNT hc4) | (replace hc4 := deNN hc4) | (replace hc4 := bnT hc4) | (replace hc4 := bnF hc4) | skip
            have hr2 : rn cs k = rnp cs k + 1 := rn_same (fun _ => by rw [g0, g1]; exact hc4)
            refine CW.skip ?_
            refine Fin.le ?_
            exact ⟨⟨rfl, rfl, congrArg (Value.int .i64) (by omega), rfl, trivial⟩, hE4⟩
        · with_reducible first | (replace hb := deNF hb) | (replace hb := of_decide_eq_true hb) | (replace hb := of_decide_eq_false hb) | (replace hb := deNT hb) | (replace hb := deNN hb) | (replace hb := bnT hb) | (replace hb := bnF hb) | skip
          refine QL.pass (t := 15) rfl rfl rfl rfl ?_
          refine QL.pass (t := 15) rfl rfl rfl rfl ?_
          refine QL.pass (t := 15) rfl rfl rfl rfl ?_
          refine QL.pass (t := 15) rfl rfl rfl rfl ?_
          refine QL.pass (t := 15) rfl rfl rfl rfl ?_
          refine QL.pass (t := 15) rfl rfl rfl rfl ?_
          refine QL.pass (t := 15) rfl rfl rfl rfl ?_
          refine QL.pass (t := 15) rfl rfl rfl rfl ?_
          refine QL.pass (t := 15) rfl rfl rfl rfl ?_
          refine QL.pass (t := 15) rfl rfl rfl rfl ?_
          refine QL.y rfl (y_pickF (v := .bool _) rfl rfl) ?_
          refine QL.nil (fun w4 hE4 => ?_)
          have hr2 : rn cs k = rnp cs k + 1 := rn_same (fun h => by omega)
          refine Fin.next ?_
          refine CW.condF rfl rfl ?_
          refine CW.skip ?_
          refine Fin.le ?_
          exact ⟨⟨rfl, rfl, congrArg (Value.int .i64) (by omega), rfl, trivial⟩, hE4⟩
      · rintro E w4 ⟨hag, hE4⟩
        refine CW.re _ hag rfl ?_
        have hv4 := hv3.ext hE4
        have hV4 := hV3.ext hE4
        refine CW.seq ?_
        refine CW.region ?_
        refine RL.y rfl (y_mov (v := .int _ _) rfl) ?_
        refine RL.y rfl (y_add rfl rfl ((show IntKind.i64.wrap (((rn cs k : Nat) : Int) - 1 + 1) = ((rn cs k : Nat) : Int) by rw [IntWalk.i64_in _ (by omega)]; omega))) ?_
        refine RL.y rfl (y_asg (v := .int _ _) rfl) ?_
        refine RL.nil ?_
        refine Fin.next ?_
        refine CW.seq ?_
        refine CW.quietE mixed (by kernel_rfl) ?_
        refine QL.y rfl (y_mov (v := .int _ _) rfl) ?_
        refine QL.y rfl (y_fa fa25_3 rfl rfl) ?_
        refine QL.y rfl (y_loadv sc2 (fun _ hC => (hV4).ext hC) rfl rfl) ?_
        refine QL.y rfl (y_gt rfl rfl) ?_
        refine QL.y rfl (y_mov (v := .bool _) rfl) ?_
        refine QL.split (t := 33) rfl rfl (fun h5 => ?_) (fun h5 => ?_)
        · with_reducible first | (replace h5 := deNF h5) | (replace h5 := of_decide_eq_true h5) | (replace h5 := of_decide_eq_false h5) | (replace h5 := deNT h5) | (replace h5 := deNN h5) | (replace h5 := bnT h5) | (replace h5 := bnF h5) | skip
          refine QL.pass (t := 33) rfl rfl rfl rfl ?_
          refine QL.pass (t := 33) rfl rfl rfl rfl ?_
          refine QL.pass (t := 33) rfl rfl rfl rfl ?_
          refine QL.pass2 (t := 36) rfl rfl rfl rfl ?_
          refine QL.pass2 (t := 36) rfl rfl rfl rfl ?_
          refine QL.pass2 (t := 36) rfl rfl rfl rfl ?_
          refine QL.pass2 (t := 36) rfl rfl rfl rfl ?_
          refine QL.pass2 (t := 36) rfl rfl rfl rfl ?_
          refine QL.pass2 (t := 36) rfl rfl rfl rfl ?_
          refine QL.pass2 (t := 36) rfl rfl rfl rfl ?_
          refine QL.pass2 (t := 36) rfl rfl rfl rfl ?_
          refine QL.pass2 (t := 36) rfl rfl rfl rfl ?_
          refine QL.pass2 (t := 36) rfl rfl rfl rfl ?_
          refine QL.pass2 (t := 36) rfl rfl rfl rfl ?_
          refine QL.pass2 (t := 36) rfl rfl rfl rfl ?_
          refine QL.pass2 (t := 36) rfl rfl rfl rfl ?_
          refine QL.pass2 (t := 36) rfl rfl rfl rfl ?_
          refine QL.pass (t := 33) rfl rfl rfl rfl ?_
          refine QL.y rfl (y_pickT (v := .bool _) rfl rfl) ?_
          refine QL.nil (fun w5 hE5 => ?_)
          refine Fin.next ?_
          refine CW.condT rfl rfl ?_
          refine CW.seq ?_
          refine CW.region ?_
          refine RL.y rfl (y_asg rfl) ?_
          refine RL.nil ?_
          refine Fin.next ?_
          refine CW.ret ?_
          refine Fin.blockRet ?_
          refine Fin.thenRet ?_
          refine Fin.thenRet ?_
          refine Fin.blockRet ?_
          refine Fin.thenRet ?_
          refine Fin.ret1 rfl (by conv => lhs; whnf) ?_
          exact ⟨_, rfl, by rw [decide_eq_false (fun h => by have := h.2 k hltk; omega)], hE.trans (hE3.trans (hE4.trans hE5))⟩
        · with_reducible first | (replace h5 := deNF h5) | (replace h5 := of_decide_eq_true h5) | (replace h5 := of_decide_eq_false h5) | (replace h5 := deNT h5) | (replace h5 := deNN h5) | (replace h5 := bnT h5) | (replace h5 := bnF h5) | skip
          refine QL.take (t := 33) rfl rfl rfl ?_
          refine QL.y rfl (y_mov (v := .int _ _) rfl) ?_
          refine QL.take (t := 33) rfl rfl rfl ?_
          refine QL.y rfl (y_gt rfl rfl) ?_
          refine QL.take (t := 33) rfl rfl rfl ?_
          refine QL.y rfl (y_mov (v := .bool _) rfl) ?_
          refine QL.split (t := 36) rfl rfl (fun hb => ?_) (fun hb => ?_)
          · with_reducible first | (replace hb := deNF hb) | (replace hb := of_decide_eq_true hb) | (replace hb := of_decide_eq_false hb) | (replace hb := deNT hb) | (replace hb := deNN hb) | (replace hb := bnT hb) | (replace hb := bnF hb) | skip
            have hk1 : k - 1 < cs.length := by omega
            have hk2 := hcb (k - 1) hk1
            have g1 : cs.getD (k - 1) 0 = cs[k - 1] := getD_lt hk1
            refine QL.take (t := 36) rfl rfl rfl ?_
            refine QL.y rfl (y_mov (by conv => lhs; whnf)) ?_
            refine QL.take (t := 36) rfl rfl rfl ?_
            refine QL.y rfl (y_mov (v := .int _ _) rfl) ?_
            refine QL.take (t := 36) rfl rfl rfl ?_
            refine QL.y rfl (y_ixa sT29 (fun _ hC => (hv4).ext hC) (k := k) (ints_lt hltk) rfl rfl) ?_
            refine QL.take (t := 36) rfl rfl rfl ?_
            refine QL.y rfl (y_load sc2 (fun _ hC => (hv4).ext hC) (ints_at hltk) rfl) ?_
            refine QL.take (t := 36) rfl rfl rfl ?_
            refine QL.y rfl (y_mov (by conv => lhs; whnf)) ?_
            refine QL.take (t := 36) rfl rfl rfl ?_
            refine QL.y rfl (y_mov (v := .int _ _) rfl) ?_
            refine QL.take (t := 36) rfl rfl rfl ?_
            refine QL.y rfl (y_sub rfl rfl ((show IntKind.i64.wrap ((k : Int) - 1) = ((k - 1 : Nat) : Int) by rw [IntWalk.i64_in _ (by omega)]; omega))) ?_
            refine QL.take (t := 36) rfl rfl rfl ?_
            refine QL.y rfl (y_ixa sT29 (fun _ hC => (hv4).ext hC) (k := k - 1) (ints_lt hk1) rfl rfl) ?_
            refine QL.take (t := 36) rfl rfl rfl ?_
            refine QL.y rfl (y_load sc2 (fun _ hC => (hv4).ext hC) (ints_at hk1) rfl) ?_
            refine QL.take (t := 36) rfl rfl rfl ?_
            refine QL.y rfl (y_sub rfl rfl (IntWalk.i64_in _ (by omega))) ?_
            refine QL.take (t := 36) rfl rfl rfl ?_
            refine QL.call rfl (fun _ hC => qs hC (l01Abs_any (by omega))) ?_
            refine QL.take (t := 36) rfl rfl rfl ?_
            refine QL.y rfl (y_fa fa25_2 rfl rfl) ?_
            refine QL.take (t := 36) rfl rfl rfl ?_
            refine QL.y rfl (y_loadv sc2 (fun _ hC => (hV4).ext hC) rfl rfl) ?_
            refine QL.take (t := 36) rfl rfl rfl ?_
            refine QL.y rfl (y_gt rfl rfl) ?_
            refine QL.take (t := 33) rfl rfl rfl ?_
            refine QL.y rfl (y_pickT (v := .bool _) rfl rfl) ?_
            refine QL.y rfl (y_pickF (v := .bool _) rfl rfl) ?_
            refine QL.nil (fun w5 hE5 => ?_)
            refine Fin.next ?_
            refine CW.cond rfl rfl (fun hc6 => ?_) (fun hc6 => ?_)
            · with_reducible first | (replace hc6 := deNF hc6) | (replace hc6 := of_decide_eq_true hc6) | (replace hc6 := of_decide_eq_false hc6) | (replace hc6 := deNT hc6) | (replace hc6 := deNN hc6) | (replace hc6 := bnT hc6) | (replace hc6 := bnF hc6) | skip
              refine CW.seq ?_
              refine CW.region ?_
              refine RL.y rfl (y_asg rfl) ?_
              refine RL.nil ?_
              refine Fin.next ?_
              refine CW.ret ?_
              refine Fin.blockRet ?_
              refine Fin.thenRet ?_
              refine Fin.thenRet ?_
              refine Fin.blockRet ?_
              refine Fin.thenRet ?_
              refine Fin.ret1 rfl (by conv => lhs; whnf) ?_
              exact ⟨_, rfl, by rw [decide_eq_false (fun h => by have := h.1 k hltk (by omega); rw [g0, g1] at this; omega)], hE.trans (hE3.trans (hE4.trans hE5))⟩
            · with_reducible first | (replace hc6 := deNF hc6) | (replace hc6 := of_decide_eq_true hc6) | (replace hc6 := of_decide_eq_false hc6) | (replace hc6 := deNT hc6) | (replace hc6 := deNN hc6) | (replace hc6 := bnT hc6) | (replace hc6 := bnF hc6) | skip
              refine CW.skip ?_
              refine Fin.blockNormal ?_
              refine Fin.next ?_
              refine CW.region ?_
              refine RL.y rfl (y_mov (v := .int _ _) rfl) ?_
              refine RL.y rfl (y_add rfl rfl (IntWalk.i64_in _ (by omega))) ?_
              refine RL.y rfl (y_asg (v := .int _ _) rfl) ?_
              refine RL.nil ?_
              refine Fin.le ?_
              exact ⟨cs.length - (k + 1), by omega, k + 1, rfl, hltk, ⟨rfl, rfl, rfl, rfl, trivial⟩, (all_succ hst (fun _ => by rw [g0, g1]; omega)), (all_succ hru (by omega)), hE3.trans (hE4.trans hE5)⟩
          · with_reducible first | (replace hb := deNF hb) | (replace hb := of_decide_eq_true hb) | (replace hb := of_decide_eq_false hb) | (replace hb := deNT hb) | (replace hb := deNN hb) | (replace hb := bnT hb) | (replace hb := bnF hb) | skip
            refine QL.pass (t := 36) rfl rfl rfl rfl ?_
            refine QL.pass (t := 36) rfl rfl rfl rfl ?_
            refine QL.pass (t := 36) rfl rfl rfl rfl ?_
            refine QL.pass (t := 36) rfl rfl rfl rfl ?_
            refine QL.pass (t := 36) rfl rfl rfl rfl ?_
            refine QL.pass (t := 36) rfl rfl rfl rfl ?_
            refine QL.pass (t := 36) rfl rfl rfl rfl ?_
            refine QL.pass (t := 36) rfl rfl rfl rfl ?_
            refine QL.pass (t := 36) rfl rfl rfl rfl ?_
            refine QL.pass (t := 36) rfl rfl rfl rfl ?_
            refine QL.pass (t := 36) rfl rfl rfl rfl ?_
            refine QL.pass (t := 36) rfl rfl rfl rfl ?_
            refine QL.pass (t := 36) rfl rfl rfl rfl ?_
            refine QL.pass (t := 36) rfl rfl rfl rfl ?_
            refine QL.take (t := 33) rfl rfl rfl ?_
            refine QL.y rfl (y_pickF (v := .bool _) rfl rfl) ?_
            refine QL.y rfl (y_pickF (v := .bool _) rfl rfl) ?_
            refine QL.nil (fun w5 hE5 => ?_)
            refine Fin.next ?_
            refine CW.condF rfl rfl ?_
            refine CW.skip ?_
            refine Fin.blockNormal ?_
            refine Fin.next ?_
            refine CW.region ?_
            refine RL.y rfl (y_mov (v := .int _ _) rfl) ?_
            refine RL.y rfl (y_add rfl rfl (IntWalk.i64_in _ (by omega))) ?_
            refine RL.y rfl (y_asg (v := .int _ _) rfl) ?_
            refine RL.nil ?_
            refine Fin.le ?_
            exact ⟨cs.length - (k + 1), by omega, k + 1, rfl, hltk, ⟨rfl, rfl, rfl, rfl, trivial⟩, (all_succ hst (fun h => by omega)), (all_succ hru (by omega)), hE3.trans (hE4.trans hE5)⟩
    · with_reducible first | (replace hck := deNF hck) | (replace hck := of_decide_eq_true hck) | (replace hck := of_decide_eq_false hck) | (replace hck := deNT hck) | (replace hck := deNN hck) | (replace hck := bnT hck) | (replace hck := bnF hck) | skip
      obtain rfl : cs.length = k := by omega
      refine CW.exit ?_
      refine Fin.thenExit ?_
      refine Fin.thenExit ?_
      refine Fin.blockHit ?_
      refine Fin.next ?_
      refine CW.seq ?_
      refine CW.region ?_
      refine RL.y rfl (y_asg rfl) ?_
      refine RL.nil ?_
      refine Fin.next ?_
      refine CW.ret ?_
      refine Fin.ret1 rfl (by conv => lhs; whnf) ?_
      exact ⟨_, rfl, by rw [decide_eq_true ⟨hst, hru⟩], hE.trans hE3⟩

theorem l04Openers_base {w : World} {q : Mk} {v u : Value} {ss : List (List Int)} {ks : List Int} {most : Int} {Bc : Nat} (hm : mkOk q) (hv : RdL w v ss) (hcu : cuts q ks) (hu : SI w u ks) (hB : InB Bc w.heap.size u) (hl : (ks.length : Int) = q.ch) :
    Does Try.prog 59 #[mkA q, v, u, .int .i64 most] w (fun r w' => ∃ cs, OwX 29 w' w.heap.size Bc r cs (opn q ss 0 ks most) ∧ Ext w w') := by
  obtain ⟨vl, rfl, vs, hr⟩ := hv
  refine enter Try.func59 rfl 63 Try.ntmps59 rfl (by kernel_rfl) ?_
  refine CW.seq ?_
  refine CW.region ?_
  refine RL.box (cs := [.int .i64 q.ch, .int .i64 q.dp, .int .i64 q.st, .int .i64 q.sm, .int .i64 q.le]) rfl rfl rfl (fun w1 hV hE1 => ?_)
  refine RL.box (cs := [vl]) rfl rfl rfl (fun w2 hW hE2 => ?_)
  have hE12 := hE1.trans hE2
  refine RL.y rfl (y_asg rfl) ?_
  refine RL.nil ?_
  refine Fin.next ?_
  refine CW.seq ?_
  refine CW.seq ?_
  refine CW.region ?_
  refine RL.y rfl (y_loads ag25 rfl (eqw (hV.ext hE2)) rfl) ?_
  refine RL.y rfl (y_mov (by conv => lhs; whnf)) ?_
  refine RL.call rfl (l02Begins_any hm hcu (hu.ext hE12)) ?_
  rintro r w3 ⟨rfl, hE3⟩
  have hE13 := hE12.trans hE3
  refine RL.y rfl (y_not rfl) ?_
  refine RL.y rfl (y_mov (v := .bool _) rfl) ?_
  refine RL.split (t := 16) rfl rfl (fun h1 => ?_) (fun h1 => ?_)
  · with_reducible first | (replace h1 := deNF h1) | (replace h1 := of_decide_eq_true h1) | (replace h1 := of_decide_eq_false h1) | (replace h1 := deNT h1) | (replace h1 := deNN h1) | (replace h1 := bnT h1) | (replace h1 := bnF h1) | skip
    refine RL.pass (t := 16) rfl rfl rfl rfl ?_
    refine RL.pass (t := 16) rfl rfl rfl rfl ?_
    refine RL.y rfl (y_pickT (v := .bool _) rfl rfl) ?_
    refine RL.nil ?_
    refine Fin.next ?_
    refine CW.condT rfl rfl ?_
    refine CW.seq ?_
    refine CW.region ?_
    refine RL.y rfl (y_asg rfl) ?_
    refine RL.nil ?_
    refine Fin.next ?_
    refine CW.ret ?_
    refine Fin.thenRet ?_
    refine Fin.ret1 rfl (by conv => lhs; whnf) ?_
    exact ⟨_, rfl, [], by rw [opn_bad h1]; exact OwX.nil _ _ _ _, hE13⟩
  · with_reducible first | (replace h1 := deNF h1) | (replace h1 := of_decide_eq_true h1) | (replace h1 := of_decide_eq_false h1) | (replace h1 := deNT h1) | (replace h1 := deNN h1) | (replace h1 := bnT h1) | (replace h1 := bnF h1) | skip
    refine RL.take (t := 16) rfl rfl rfl ?_
    refine RL.y rfl (y_mov (v := .int _ _) rfl) ?_
    refine RL.take (t := 16) rfl rfl rfl ?_
    refine RL.y rfl (y_le rfl rfl) ?_
    refine RL.y rfl (y_pickF (v := .bool _) rfl rfl) ?_
    refine RL.nil ?_
    refine Fin.next ?_
    refine CW.cond rfl rfl (fun h2 => ?_) (fun h2 => ?_)
    · with_reducible first | (replace h2 := deNF h2) | (replace h2 := of_decide_eq_true h2) | (replace h2 := of_decide_eq_false h2) | (replace h2 := deNT h2) | (replace h2 := deNN h2) | (replace h2 := bnT h2) | (replace h2 := bnF h2) | skip
      refine CW.seq ?_
      refine CW.region ?_
      refine RL.y rfl (y_asg rfl) ?_
      refine RL.nil ?_
      refine Fin.next ?_
      refine CW.ret ?_
      refine Fin.thenRet ?_
      refine Fin.ret1 rfl (by conv => lhs; whnf) ?_
      exact ⟨_, rfl, [], by rw [opn_none (by omega)]; exact OwX.nil _ _ _ _, hE13⟩
    · with_reducible first | (replace h2 := deNF h2) | (replace h2 := of_decide_eq_true h2) | (replace h2 := of_decide_eq_false h2) | (replace h2 := deNT h2) | (replace h2 := deNN h2) | (replace h2 := bnT h2) | (replace h2 := bnF h2) | skip
      refine CW.skip ?_
      refine Fin.next ?_
      refine CW.seq ?_
      refine CW.seq ?_
      refine CW.region ?_
      refine RL.y rfl (y_mov (by conv => lhs; whnf)) ?_
      refine RL.y rfl (y_len sT29 hu (ints_len _) rfl) ?_
      refine RL.y rfl (y_fa fa25_0 rfl rfl) ?_
      refine RL.y rfl (y_loadv sc2 (eqw ((hV.ext hE2).ext hE3)) rfl rfl) ?_
      refine RL.y rfl (y_eq rfl rfl) ?_
      refine RL.nil ?_
      refine Fin.next ?_
      refine CW.condT rfl ((decide_eq_true hl)) ?_
      refine CW.seq ?_
      refine CW.seq ?_
      refine CW.quietE mixed (by kernel_rfl) ?_
      refine QL.y rfl (y_mov (by conv => lhs; whnf)) ?_
      refine QL.call rfl (fun _ hC => qc hC (l02Kinds_any ((hu.ext hE13).ext hC))) ?_
      refine QL.y rfl (y_fa fa25_4 rfl rfl) ?_
      refine QL.y rfl (y_loadv sc2 (fun _ hC => ((hV.ext hE2).ext hE3).ext hC) rfl rfl) ?_
      refine QL.y rfl (y_lt rfl rfl) ?_
      refine QL.nil (fun w4 hE4 => ?_)
      refine Fin.next ?_
      refine CW.cond rfl rfl (fun h3 => ?_) (fun h3 => ?_)
      · with_reducible first | (replace h3 := deNF h3) | (replace h3 := of_decide_eq_true h3) | (replace h3 := of_decide_eq_false h3) | (replace h3 := deNT h3) | (replace h3 := deNN h3) | (replace h3 := bnT h3) | (replace h3 := bnF h3) | skip
        refine CW.seq ?_
        refine CW.region ?_
        refine RL.y rfl (y_asg rfl) ?_
        refine RL.nil ?_
        refine Fin.next ?_
        refine CW.ret ?_
        refine Fin.thenRet ?_
        refine Fin.thenRet ?_
        refine Fin.ret1 rfl (by conv => lhs; whnf) ?_
        exact ⟨_, rfl, [], by rw [opn_zero_no (by omega)]; exact OwX.nil _ _ _ _, hE13.trans hE4⟩
      · with_reducible first | (replace h3 := deNF h3) | (replace h3 := of_decide_eq_true h3) | (replace h3 := of_decide_eq_false h3) | (replace h3 := deNT h3) | (replace h3 := deNN h3) | (replace h3 := bnT h3) | (replace h3 := bnF h3) | skip
        have hE14 := hE13.trans hE4
        have hs4 := hE14.size
        refine CW.skip ?_
        refine Fin.next ?_
        refine CW.seq ?_
        refine CW.region ?_
        refine RL.y rfl (y_mov (by conv => lhs; whnf)) ?_
        refine RL.lit1 rfl sT26 (slice_one hu) rfl (fun v5 w5 ho5 hE5 hb5 => ?_)
        refine RL.y rfl (y_asg (by conv => lhs; whnf)) ?_
        refine RL.nil ?_
        refine Fin.next ?_
        refine CW.ret ?_
        refine Fin.thenRet ?_
        refine Fin.ret1 rfl (by conv => lhs; whnf) ?_
        exact ⟨_, rfl, _, by rw [opn_zero_yes h1 (by omega) (by omega)]; exact (OwX.single ho5 hb5 ((hu.ext hE14).ext hE5) (fun b hb => by have := hB b hb; omega) hE5.size).mono hs4, hE14.trans hE5⟩

theorem l04Openers_step {w : World} {q : Mk} {v u : Value} {ss : List (List Int)} {ks : List Int} {most : Int} {Bc n : Nat} (hm : mkOk q) (hv : RdL w v ss) (hs : ∀ r ∈ ss, cuts q r) (hsl : (ss.length : Int) = q.ch) (hcu : cuts q ks) (hu : SI w u ks) (hB : InB Bc w.heap.size u) (hBw : Bc ≤ w.heap.size) (hl : (ks.length : Int) + ((n : Int) + 1) = q.ch) (hmo : -1000000 ≤ most ∧ most ≤ 1000000) (ih : ∀ (w' : World) (v' u' : Value) (ks' : List Int) (most' : Int) (Bc' : Nat), RdL w' v' ss → cuts q ks' → SI w' u' ks' → InB Bc' w'.heap.size u' → Bc' ≤ w'.heap.size → (ks'.length : Int) + (n : Int) = q.ch → (-1000000 ≤ most' ∧ most' ≤ 1000000) → Does Try.prog 59 #[mkA q, v', u', .int .i64 most'] w' (fun r w'' => ∃ cs, OwX 29 w'' w'.heap.size Bc' r cs (opn q ss n ks' most') ∧ Ext w' w'')) :
    Does Try.prog 59 #[mkA q, v, u, .int .i64 most] w (fun r w' => ∃ cs, OwX 29 w' w.heap.size Bc r cs (opn q ss (n + 1) ks most) ∧ Ext w w') := by
  obtain ⟨vl, rfl, vs, hrd⟩ := hv
  have m1 := hm.1
  have m2 := hm.2.1
  refine enter Try.func59 rfl 63 Try.ntmps59 rfl (by kernel_rfl) ?_
  refine CW.seq ?_
  refine CW.region ?_
  refine RL.box (cs := [.int .i64 q.ch, .int .i64 q.dp, .int .i64 q.st, .int .i64 q.sm, .int .i64 q.le]) rfl rfl rfl (fun w1 hV hE1 => ?_)
  refine RL.box (cs := [vl]) rfl rfl rfl (fun w2 hW hE2 => ?_)
  have hE12 := hE1.trans hE2
  refine RL.y rfl (y_asg rfl) ?_
  refine RL.nil ?_
  refine Fin.next ?_
  refine CW.seq ?_
  refine CW.seq ?_
  refine CW.region ?_
  refine RL.y rfl (y_loads ag25 rfl (eqw (hV.ext hE2)) rfl) ?_
  refine RL.y rfl (y_mov (by conv => lhs; whnf)) ?_
  refine RL.call rfl (l02Begins_any hm hcu (hu.ext hE12)) ?_
  rintro r w3 ⟨rfl, hE3⟩
  have hE13 := hE12.trans hE3
  refine RL.y rfl (y_not rfl) ?_
  refine RL.y rfl (y_mov (v := .bool _) rfl) ?_
  refine RL.split (t := 16) rfl rfl (fun h1 => ?_) (fun h1 => ?_)
  · with_reducible first | (replace h1 := deNF h1) | (replace h1 := of_decide_eq_true h1) | (replace h1 := of_decide_eq_false h1) | (replace h1 := deNT h1) | (replace h1 := deNN h1) | (replace h1 := bnT h1) | (replace h1 := bnF h1) | skip
    refine RL.pass (t := 16) rfl rfl rfl rfl ?_
    refine RL.pass (t := 16) rfl rfl rfl rfl ?_
    refine RL.y rfl (y_pickT (v := .bool _) rfl rfl) ?_
    refine RL.nil ?_
    refine Fin.next ?_
    refine CW.condT rfl rfl ?_
    refine CW.seq ?_
    refine CW.region ?_
    refine RL.y rfl (y_asg rfl) ?_
    refine RL.nil ?_
    refine Fin.next ?_
    refine CW.ret ?_
    refine Fin.thenRet ?_
    refine Fin.ret1 rfl (by conv => lhs; whnf) ?_
    exact ⟨_, rfl, [], by rw [opn_bad h1]; exact OwX.nil _ _ _ _, hE13⟩
  · with_reducible first | (replace h1 := deNF h1) | (replace h1 := of_decide_eq_true h1) | (replace h1 := of_decide_eq_false h1) | (replace h1 := deNT h1) | (replace h1 := deNN h1) | (replace h1 := bnT h1) | (replace h1 := bnF h1) | skip
    refine RL.take (t := 16) rfl rfl rfl ?_
    refine RL.y rfl (y_mov (v := .int _ _) rfl) ?_
    refine RL.take (t := 16) rfl rfl rfl ?_
    refine RL.y rfl (y_le rfl rfl) ?_
    refine RL.y rfl (y_pickF (v := .bool _) rfl rfl) ?_
    refine RL.nil ?_
    refine Fin.next ?_
    refine CW.cond rfl rfl (fun h2 => ?_) (fun h2 => ?_)
    · with_reducible first | (replace h2 := deNF h2) | (replace h2 := of_decide_eq_true h2) | (replace h2 := of_decide_eq_false h2) | (replace h2 := deNT h2) | (replace h2 := deNN h2) | (replace h2 := bnT h2) | (replace h2 := bnF h2) | skip
      refine CW.seq ?_
      refine CW.region ?_
      refine RL.y rfl (y_asg rfl) ?_
      refine RL.nil ?_
      refine Fin.next ?_
      refine CW.ret ?_
      refine Fin.thenRet ?_
      refine Fin.ret1 rfl (by conv => lhs; whnf) ?_
      exact ⟨_, rfl, [], by rw [opn_none (by omega)]; exact OwX.nil _ _ _ _, hE13⟩
    · with_reducible first | (replace h2 := deNF h2) | (replace h2 := of_decide_eq_true h2) | (replace h2 := of_decide_eq_false h2) | (replace h2 := deNT h2) | (replace h2 := deNN h2) | (replace h2 := bnT h2) | (replace h2 := bnF h2) | skip
      refine CW.skip ?_
      refine Fin.next ?_
      refine CW.seq ?_
      refine CW.seq ?_
      refine CW.region ?_
      refine RL.y rfl (y_mov (by conv => lhs; whnf)) ?_
      refine RL.y rfl (y_len sT29 hu (ints_len _) rfl) ?_
      refine RL.y rfl (y_fa fa25_0 rfl rfl) ?_
      refine RL.y rfl (y_loadv sc2 (eqw ((hV.ext hE2).ext hE3)) rfl rfl) ?_
      refine RL.y rfl (y_eq rfl rfl) ?_
      refine RL.nil ?_
      refine Fin.next ?_
      refine CW.condF rfl ((decide_eq_false (by omega))) ?_
      refine CW.skip ?_
      refine Fin.next ?_
      refine CW.seq ?_
      refine CW.region ?_
      refine RL.lit0 rfl sT26 (fun vo w4 ho4 hE4 hb4 => ?_)
      have hE24 := hE3.trans hE4
      have hE14 := hE12.trans hE24
      have hkl : ks.length < ss.length := by omega
      refine RL.y rfl (y_asg (by conv => lhs; whnf)) ?_
      refine RL.nil ?_
      refine Fin.next ?_
      refine CW.seq ?_
      refine CW.region ?_
      refine RL.y rfl (y_fa fa28_0 rfl rfl) ?_
      refine RL.y rfl (y_loadv sc26 (eqw (hW.ext hE24)) rfl rfl) ?_
      refine RL.y rfl (y_mov (by conv => lhs; whnf)) ?_
      refine RL.y rfl (y_len sT29 hu (ints_len _) rfl) ?_
      refine RL.y rfl (y_ixa sT26 (eqw (hrd.1.ext hE14)) (k := ks.length) (hrd.lt hkl) rfl rfl) ?_
      refine RL.y rfl (y_load sc29 (eqw (hrd.1.ext hE14)) (hrd.at hkl) rfl) ?_
      have hset := hrd.row hkl
      have hsn := SI.le hset
      have hsc := hs _ (List.getElem_mem hkl)
      have hgs : ss.getD ks.length [] = ss[ks.length] := getD_lt hkl
      have hs3 := hE13.size
      refine RL.y rfl (y_asg (by conv => lhs; whnf)) ?_
      refine RL.nil ?_
      refine Fin.next ?_
      refine CW.seq ?_
      refine CW.seq ?_
      refine CW.region ?_
      refine RL.y rfl (y_asg rfl) ?_
      refine RL.nil ?_
      refine Fin.next ?_
      refine CW.block ?_
      refine CW.loop (fun m E w' => ∃ (k : Nat) (vo : Value) (cv : List Value), m = ss[ks.length].length - k ∧ k ≤ ss[ks.length].length ∧ agrees E [(2, u), (3, .int .i64 most), (4, .pointer (some ⟨w.heap.size, 0, none⟩)), (5, .pointer (some ⟨w1.heap.size, 0, none⟩)), (9, vo), (10, vs.getD ks.length undef), (11, .int .i64 (k : Int))] ∧ OwX 29 w' w3.heap.size Bc vo cv (opF q ss n ks most (ss[ks.length].take k)) ∧ Ext w3 w') _ (⟨0, vo, [], rfl, Nat.zero_le _, ⟨rfl, rfl, rfl, rfl, rfl, rfl, rfl, trivial⟩, ⟨ho4, rfl, fun i hi => absurd hi (Nat.not_lt_zero i)⟩, hE4⟩) ?_
      · rintro m E w5 ⟨k, vo, cv, rfl, hk, hag, hox5, hE35⟩
        refine CW.re _ hag rfl ?_
        have hE25 := hE3.trans hE35
        have hE05 := hE12.trans hE25
        refine CW.seq ?_
        refine CW.seq ?_
        refine CW.region ?_
        refine RL.y rfl (y_mov (v := .int _ _) rfl) ?_
        refine RL.y rfl (y_mov (by conv => lhs; whnf)) ?_
        refine RL.y rfl (y_len sT29 (hset.ext hE05) (ints_len _) rfl) ?_
        refine RL.y rfl (y_lt rfl rfl) ?_
        refine RL.nil ?_
        refine Fin.next ?_
        refine CW.cond rfl rfl (fun hck => ?_) (fun hck => ?_)
        · with_reducible first | (replace hck := deNF hck) | (replace hck := of_decide_eq_true hck) | (replace hck := of_decide_eq_false hck) | (replace hck := deNT hck) | (replace hck := deNN hck) | (replace hck := bnT hck) | (replace hck := bnF hck) | skip
          have hlt : k < ss[ks.length].length := by omega
          have hx := hsc _ (List.getElem_mem hlt)
          have hol : ((opF q ss n ks most (ss[ks.length].take k)).length : Int) ≤ most := opF_len _ (by omega)
          have hcl := hox5.2.1
          have hE2d := hE25.trans (Ext.drew w5)
          have hE0d := hE05.trans (Ext.drew w5)
          have hE3d := hE35.trans (Ext.drew w5)
          have hsd := hE3d.size
          have hu2 := hu.ext hE0d
          have hoxd := hox5.ext (Ext.drew w5)
          have hk6 : ks.length ≤ 6 := by omega
          refine CW.skip ?_
          refine Fin.next ?_
          refine CW.seq ?_
          refine CW.block ?_
          refine CW.any (Ext w2) [4, 9, 10, 15, 16] mixed rfl (hE2d) ?_
          refine AL.y 0 rfl rfl (by kernel_rfl) (by kernel_rfl) (by kernel_rfl) rfl (y_mov (by conv => lhs; whnf)) ?_
          refine AL.y 1 rfl rfl (by kernel_rfl) (by kernel_rfl) (by kernel_rfl) rfl (y_loads ag25 rfl (fun _ hC => (hV.ext hE2).ext hC) rfl) ?_
          refine AL.y 2 rfl rfl (by kernel_rfl) (by kernel_rfl) (by kernel_rfl) rfl (y_loads ag28 rfl (fun _ hC => (hW).ext hC) rfl) ?_
          refine AL.y 3 rfl rfl (by kernel_rfl) (by kernel_rfl) (by kernel_rfl) rfl (y_mov (by conv => lhs; whnf)) ?_
          refine AL.y 5 rfl rfl (by kernel_rfl) (by kernel_rfl) (by kernel_rfl) rfl (y_mov (by conv => lhs; whnf)) ?_
          refine AL.y 6 rfl rfl (by kernel_rfl) (by kernel_rfl) (by kernel_rfl) rfl (y_mov (v := .int _ _) rfl) ?_
          refine AL.y 7 rfl rfl (by kernel_rfl) (by kernel_rfl) (by kernel_rfl) rfl (y_ixa sT29 (fun _ hC => (hset.ext hE12).ext hC) (k := k) (ints_lt hlt) rfl rfl) ?_
          refine AL.y 8 rfl rfl (by kernel_rfl) (by kernel_rfl) (by kernel_rfl) rfl (y_load sc2 (fun _ hC => (hset.ext hE12).ext hC) (ints_at hlt) rfl) ?_
          refine AL.y 11 rfl rfl (by kernel_rfl) (by kernel_rfl) (by kernel_rfl) rfl (y_mov (v := .int _ _) rfl) ?_
          refine AL.y 12 rfl rfl (by kernel_rfl) (by kernel_rfl) (by kernel_rfl) rfl (y_mov (by conv => lhs; whnf)) ?_
          refine AL.y 13 rfl rfl (by kernel_rfl) (by kernel_rfl) (by kernel_rfl) rfl (y_len sT26 hox5.1.sv hcl rfl) ?_
          refine AL.y 14 rfl rfl (by kernel_rfl) (by kernel_rfl) (by kernel_rfl) rfl (y_sub rfl rfl (IntWalk.i64_in _ (by omega))) ?_
          refine AL.two (i := 4) (j := 9) (by kernel_rfl) rfl rfl rfl rfl ?_ ?_ 
          · intro hr hJ
            refine RL.call rfl (l01Own_any hu2 (by omega)) ?_
            rintro v6 w6 ⟨ho6, hE6⟩
            have hs6 := hE6.size
            refine RL.nil ?_
            refine Fin.al hr hJ (.inr (hE2d.trans hE6)) ?_
            refine AL.one (i := 9) (by kernel_rfl) rfl rfl ?_ 
            intro hr hJ
            refine RL.lit1 rfl sT29 rfl rfl (fun vx w7 hx7 hE7 hb7 => ?_)
            have ho7 := ho6.ext hE7
            have hs7 := hE7.size
            refine RL.nil ?_
            refine Fin.al hr hJ (.inr (hE2d.trans (hE6.trans hE7))) ?_
            refine AL.one (i := 10) (by kernel_rfl) rfl rfl ?_ 
            intro hr hJ
            refine RL.app rfl sT29 ho7 hx7.sv (ints_one [_]) (by rw [ints_len, List.length_singleton]; omega) (by rw [ints_len, List.length_singleton]; omega) (by omega) rfl rfl (fun v8 w8 ho8 hg8 hn8 => ?_)
            replace ho8 : OV w8 w5.drew.heap.size 2 v8 (ints (ks ++ [ss[ks.length][k]])) := by rw [← ints_app]; exact ho8
            have hEd8 : Ext w5.drew w8 := (hE6.trans hE7).grown hg8 (fun b hb => (ho7.lt b hb).1)
            have hs8 := hEd8.size
            refine RL.nil ?_
            refine Fin.al hr hJ (.inr (hE2d.trans hEd8)) ?_
            refine AL.one (i := 15) (by kernel_rfl) rfl rfl ?_ 
            intro hr hJ
            refine RL.call rfl (ih w8 (.agg #[vl]) v8 (ks ++ [ss[ks.length][k]]) (most - ((opF q ss n ks most (ss[ks.length].take k)).length : Int)) w5.drew.heap.size ⟨vl, rfl, vs, hrd.ext (hE0d.trans hEd8)⟩ (cuts_snoc hcu hx) ho8.sv (fun b hb => ho8.lt b hb) hs8 (by simp; omega) (by omega)) ?_
            rintro r9 w9 ⟨cs9, hox9, hE9⟩
            have hEd9 := hEd8.trans hE9
            have hs9 := hE9.size
            have hln9 := opn_le (q := q) (ss := ss) (n := n) (ks := ks ++ [ss[ks.length][k]]) (most := most - ((opF q ss n ks most (ss[ks.length].take k)).length : Int))
            have hr9 : cs9.length ≤ 1000000 := by rw [hox9.2.1]; omega
            refine RL.nil ?_
            refine Fin.al hr hJ (.inr (hE2d.trans hEd9)) ?_
            refine AL.one (i := 16) (by kernel_rfl) rfl rfl ?_ 
            intro hr hJ
            refine RL.app rfl sT26 (hoxd.ext hEd9).1 hox9.1.sv hox9.one (by omega) (by omega) (by omega) rfl rfl (fun v10 w10 ho10 hg10 hn10 => ?_)
            have hoxz := (hoxd.ext hEd9).app hox9 (by have := hE0d.size; omega) (fun b hb => by have := (hoxd.1.lt b hb).2; omega) ho10 hg10 hn10
            rw [← opF_snoc hlt] at hoxz
            have hE310 : Ext w3 w10 := (hE3d.trans hEd9).grown hg10 (fun b hb => (hox5.1.lt b hb).1)
            refine RL.nil ?_
            refine Fin.al hr hJ (.inr (hE3.trans hE310)) ?_
            refine AL.y 17 rfl rfl (by kernel_rfl) (by kernel_rfl) (by kernel_rfl) rfl (y_asg (by conv => lhs; whnf)) ?_
            refine AL.nil (by kernel_rfl) ?_
            refine Fin.blockNormal ?_
            refine Fin.next ?_
            refine CW.region ?_
            refine RL.y rfl (y_mov (v := .int _ _) rfl) ?_
            refine RL.y rfl (y_add rfl rfl (IntWalk.i64_in _ (by omega))) ?_
            refine RL.y rfl (y_asg (v := .int _ _) rfl) ?_
            refine RL.nil ?_
            refine Fin.le ?_
            exact ⟨ss[ks.length].length - (k + 1), by omega, k + 1, v10, _, rfl, hlt, ⟨rfl, rfl, rfl, rfl, rfl, rfl, rfl, trivial⟩, hoxz, hE310⟩
          · intro hr hJ
            refine RL.lit1 rfl sT29 rfl rfl (fun vx w6 hx6 hE6 hb6 => ?_)
            have hs6 := hE6.size
            refine RL.nil ?_
            refine Fin.al hr hJ (.inr (hE2d.trans hE6)) ?_
            refine AL.one (i := 4) (by kernel_rfl) rfl rfl ?_ 
            intro hr hJ
            refine RL.call rfl (l01Own_any (hu2.ext hE6) (by omega)) ?_
            rintro v6 w7 ⟨ho7', hE7⟩
            have hs7 := hE7.size
            have ho7 := ho7'.mono hs6
            have hx7 := hx6.ext hE7
            refine RL.nil ?_
            refine Fin.al hr hJ (.inr (hE2d.trans (hE6.trans hE7))) ?_
            refine AL.one (i := 10) (by kernel_rfl) rfl rfl ?_ 
            intro hr hJ
            refine RL.app rfl sT29 ho7 hx7.sv (ints_one [_]) (by rw [ints_len, List.length_singleton]; omega) (by rw [ints_len, List.length_singleton]; omega) (by omega) rfl rfl (fun v8 w8 ho8 hg8 hn8 => ?_)
            replace ho8 : OV w8 w5.drew.heap.size 2 v8 (ints (ks ++ [ss[ks.length][k]])) := by rw [← ints_app]; exact ho8
            have hEd8 : Ext w5.drew w8 := (hE6.trans hE7).grown hg8 (fun b hb => (ho7.lt b hb).1)
            have hs8 := hEd8.size
            refine RL.nil ?_
            refine Fin.al hr hJ (.inr (hE2d.trans hEd8)) ?_
            refine AL.one (i := 15) (by kernel_rfl) rfl rfl ?_ 
            intro hr hJ
            refine RL.call rfl (ih w8 (.agg #[vl]) v8 (ks ++ [ss[ks.length][k]]) (most - ((opF q ss n ks most (ss[ks.length].take k)).length : Int)) w5.drew.heap.size ⟨vl, rfl, vs, hrd.ext (hE0d.trans hEd8)⟩ (cuts_snoc hcu hx) ho8.sv (fun b hb => ho8.lt b hb) hs8 (by simp; omega) (by omega)) ?_
            rintro r9 w9 ⟨cs9, hox9, hE9⟩
            have hEd9 := hEd8.trans hE9
            have hs9 := hE9.size
            have hln9 := opn_le (q := q) (ss := ss) (n := n) (ks := ks ++ [ss[ks.length][k]]) (most := most - ((opF q ss n ks most (ss[ks.length].take k)).length : Int))
            have hr9 : cs9.length ≤ 1000000 := by rw [hox9.2.1]; omega
            refine RL.nil ?_
            refine Fin.al hr hJ (.inr (hE2d.trans hEd9)) ?_
            refine AL.one (i := 16) (by kernel_rfl) rfl rfl ?_ 
            intro hr hJ
            refine RL.app rfl sT26 (hoxd.ext hEd9).1 hox9.1.sv hox9.one (by omega) (by omega) (by omega) rfl rfl (fun v10 w10 ho10 hg10 hn10 => ?_)
            have hoxz := (hoxd.ext hEd9).app hox9 (by have := hE0d.size; omega) (fun b hb => by have := (hoxd.1.lt b hb).2; omega) ho10 hg10 hn10
            rw [← opF_snoc hlt] at hoxz
            have hE310 : Ext w3 w10 := (hE3d.trans hEd9).grown hg10 (fun b hb => (hox5.1.lt b hb).1)
            refine RL.nil ?_
            refine Fin.al hr hJ (.inr (hE3.trans hE310)) ?_
            refine AL.y 17 rfl rfl (by kernel_rfl) (by kernel_rfl) (by kernel_rfl) rfl (y_asg (by conv => lhs; whnf)) ?_
            refine AL.nil (by kernel_rfl) ?_
            refine Fin.blockNormal ?_
            refine Fin.next ?_
            refine CW.region ?_
            refine RL.y rfl (y_mov (v := .int _ _) rfl) ?_
            refine RL.y rfl (y_add rfl rfl (IntWalk.i64_in _ (by omega))) ?_
            refine RL.y rfl (y_asg (v := .int _ _) rfl) ?_
            refine RL.nil ?_
            refine Fin.le ?_
            exact ⟨ss[ks.length].length - (k + 1), by omega, k + 1, v10, _, rfl, hlt, ⟨rfl, rfl, rfl, rfl, rfl, rfl, rfl, trivial⟩, hoxz, hE310⟩
        · with_reducible first | (replace hck := deNF hck) | (replace hck := of_decide_eq_true hck) | (replace hck := of_decide_eq_false hck) | (replace hck := deNT hck) | (replace hck := deNN hck) | (replace hck := bnT hck) | (replace hck := bnF hck) | skip
          obtain rfl : k = ss[ks.length].length := by omega
          rw [List.take_length] at hox5
          refine CW.exit ?_
          refine Fin.thenExit ?_
          refine Fin.thenExit ?_
          refine Fin.blockHit ?_
          refine Fin.next ?_
          refine CW.seq ?_
          refine CW.region ?_
          refine RL.y rfl (y_mov (by conv => lhs; whnf)) ?_
          refine RL.y rfl (y_asg (by conv => lhs; whnf)) ?_
          refine RL.nil ?_
          refine Fin.next ?_
          refine CW.ret ?_
          refine Fin.ret1 rfl (by conv => lhs; whnf) ?_
          exact ⟨_, rfl, _, by rw [opn_succ h1 (by omega), hgs]; exact hox5.mono hs3, hE05⟩

theorem l04Openers_any {q : Mk} {ss : List (List Int)} (hm : mkOk q) (hs : ∀ r ∈ ss, cuts q r) (hsl : (ss.length : Int) = q.ch) : ∀ (n : Nat) (w : World) (v u : Value) (ks : List Int) (most : Int) (Bc : Nat), RdL w v ss → cuts q ks → SI w u ks → InB Bc w.heap.size u → Bc ≤ w.heap.size → (ks.length : Int) + (n : Int) = q.ch → (-1000000 ≤ most ∧ most ≤ 1000000) →
     Does Try.prog 59 #[mkA q, v, u, .int .i64 most] w (fun r w'' => ∃ cs, OwX 29 w'' w.heap.size Bc r cs (opn q ss n ks most) ∧ Ext w w'')
  | 0, w, v, u, ks, most, Bc, hv, hcu, hu, hB, _, hl, _ => l04Openers_base hm hv hcu hu hB (by omega)
  | n + 1, w, v, u, ks, most, Bc, hv, hcu, hu, hB, hBw, hl, hmo => l04Openers_step hm hv hs hsl hcu hu hB hBw (by omega) hmo (fun w' v' u' ks' most' Bc' => l04Openers_any hm hs hsl n w' v' u' ks' most' Bc')

theorem wn_cuts {q : Mk} {ss : List (List Int)} {a t : Int} : ∀ r ∈ wnV q ss a t, cuts q r := fun r hr => by
  unfold wnV at hr
  split at hr
  · obtain ⟨set, _, rfl⟩ := List.mem_map.1 hr
    intro x hx
    obtain ⟨i, hi, _, rfl⟩ := mem_idxs.1 hx
    omega
  · simp at hr
theorem wnL_at {q : Mk} {ss : List (List Int)} {n : Nat} {t : Int} {i : Nat} (h : i < ss.length) : (wnL q ss n t).getD i [] = wnS q (ss.getD i []) n t q.dp.toNat := by
  have h1 : i < (wnL q ss n t).length := by rw [wnL_len]; exact h
  rw [getD_lt h1, getD_lt h]
  exact List.getElem_map ..
theorem wn_opn {q : Mk} {ss : List (List Int)} {a t : Int} (h : loC q ss a t = 0) : (opn q (wnV q ss a t) q.ch.toNat [] 1000000).length = opN q (wnV q ss a t) := by
  obtain ⟨hl, _⟩ := loC_zero.1 h
  have hp := pow8 hl.1
  have hlen := hl.2.1
  have hwl : (wnV q ss a t).length = ss.length := by rw [wn_ok h]; exact wnL_len
  obtain ⟨m1, m2, _⟩ := hl.1
  refine opn_cf (by omega) (fun i hi => ?_) _ [] _ (by simp; omega) (bgn_nil q) (by omega)
  rw [wn_ok h, wnL_at (by omega)]
  exact ⟨_, rfl⟩

theorem specCountMayOpen_any {w : World} {q : Mk} {v : Value} {ss : List (List Int)} {a t : Int} (hv : RdL w v ss) :
    Does Try.prog 19 #[mkA q, v, .int .i64 a, .int .i64 t] w (fun r w' => r = .tuple #[.int .i64 (cmV q ss a t), .int .i64 (loC q ss a t)] ∧ Ext w w') := by
  obtain ⟨vl, rfl, vs, hr⟩ := hv
  refine enter Try.func19 rfl 27 Try.ntmps19 rfl (by kernel_rfl) ?_
  refine CW.seq ?_
  refine CW.region ?_
  refine RL.box (cs := [.int .i64 q.ch, .int .i64 q.dp, .int .i64 q.st, .int .i64 q.sm, .int .i64 q.le]) rfl rfl rfl (fun w1 hV hE1 => ?_)
  refine RL.box (cs := [vl]) rfl rfl rfl (fun w2 hW hE2 => ?_)
  have hE02 := hE1.trans hE2
  refine RL.y rfl (y_asg rfl) ?_
  refine RL.y rfl (y_asg rfl) ?_
  refine RL.nil ?_
  refine Fin.next ?_
  refine CW.seq ?_
  refine CW.region ?_
  refine RL.y rfl (y_loads ag25 rfl (eqw (hV.ext hE2)) rfl) ?_
  refine RL.y rfl (y_loads ag28 rfl (eqw (hW)) rfl) ?_
  refine RL.y rfl (y_mov (v := .int _ _) rfl) ?_
  refine RL.y rfl (y_mov (v := .int _ _) rfl) ?_
  refine RL.call rfl (l08Lock_any ⟨vl, rfl, vs, hr.ext hE02⟩) ?_
  rintro r w3 ⟨rfl, hE3⟩
  have hE03 := hE02.trans hE3
  refine RL.y rfl (y_asg (v := .int _ _) rfl) ?_
  refine RL.nil ?_
  refine Fin.next ?_
  refine CW.seq ?_
  refine CW.seq ?_
  refine CW.region ?_
  refine RL.y rfl (y_mov (v := .int _ _) rfl) ?_
  refine RL.y rfl (y_ne rfl rfl) ?_
  refine RL.nil ?_
  refine Fin.next ?_
  refine CW.cond rfl rfl (fun h1 => ?_) (fun h1 => ?_)
  · with_reducible first | (replace h1 := deNF h1) | (replace h1 := of_decide_eq_true h1) | (replace h1 := of_decide_eq_false h1) | (replace h1 := deNT h1) | (replace h1 := deNN h1) | (replace h1 := bnT h1) | (replace h1 := bnF h1) | skip
    refine CW.seq ?_
    refine CW.region ?_
    refine RL.y rfl (y_mov (v := .int _ _) rfl) ?_
    refine RL.y rfl (y_asg rfl) ?_
    refine RL.y rfl (y_asg (v := .int _ _) rfl) ?_
    refine RL.nil ?_
    refine Fin.next ?_
    refine CW.ret ?_
    refine Fin.thenRet ?_
    refine Fin.ret2 rfl (by conv => lhs; whnf) (by conv => lhs; whnf) ?_
    exact ⟨_, rfl, by unfold cmV; rw [if_neg h1], hE03⟩
  · with_reducible first | (replace h1 := deNF h1) | (replace h1 := of_decide_eq_true h1) | (replace h1 := of_decide_eq_false h1) | (replace h1 := deNT h1) | (replace h1 := deNN h1) | (replace h1 := bnT h1) | (replace h1 := bnF h1) | skip
    obtain ⟨hl, hn⟩ := loC_zero.1 h1
    have hlen := hl.2.1
    have hwl : (wnV q ss a t).length = ss.length := by rw [wn_ok h1]; exact wnL_len
    have hE3d := hE3.trans (Ext.drew _)
    refine CW.skip ?_
    refine Fin.next ?_
    refine CW.seq ?_
    refine CW.tape (Ext _) [9, 8, 7, 6, 5] mixed (by kernel_rfl) (by kernel_rfl) (Ext.drew _) ?_
    refine TL.y rfl rfl (y_loads ag25 rfl (fun _ hC => ((hV.ext hE2).ext hE3).ext hC) rfl) ?_
    refine TL.y rfl rfl (y_loads ag25 rfl (fun _ hC => ((hV.ext hE2).ext hE3).ext hC) rfl) ?_
    refine TL.y rfl rfl (y_loads ag28 rfl (fun _ hC => (hW.ext hE3).ext hC) rfl) ?_
    refine TL.y rfl rfl (y_mov (v := .int _ _) rfl) ?_
    refine TL.y rfl rfl (y_mov (v := .int _ _) rfl) ?_
    refine TL.op rfl (fun hC => ?_)
    refine RL.call rfl (l08Worn_any ⟨vl, rfl, vs, hr.ext (hE02.trans hE3d)⟩ hl hn.1) ?_
    rintro v4 w4 ⟨ho4, hE4⟩
    rw [← wn_ok h1] at ho4
    refine RL.nil ?_
    refine Fin.tl (by first | exact hC | (refine Ext.trans hC ?_; assumption)) ?_
    refine TL.op rfl (fun hC => ?_)
    refine RL.call rfl (l04Openers_any hl.1 wn_cuts (by omega) q.ch.toNat w4 v4 (.slice none 0 0) [] 1000000 0 ho4.rd (fun x hx => by simp at hx) (SV.nil _) (fun b hb => by simp [Value.ownBlock] at hb) (Nat.zero_le _) (by have := hl.1.1; simp; omega) (by omega)) ?_
    rintro r5 w5 ⟨cs5, ho5, hE5⟩
    refine RL.nil ?_
    refine Fin.tl (by first | exact hC | (refine Ext.trans hC ?_; assumption)) ?_
    refine TL.yc rfl rfl (y_len sT26 ho5.1.sv ho5.2.1 rfl) ?_
    refine TL.yc rfl rfl (y_asg (v := .int _ _) rfl) ?_
    refine TL.yc rfl rfl (y_asg rfl) ?_
    refine TL.nil (fun hC => ?_)
    refine Fin.next ?_
    refine CW.ret ?_
    refine Fin.ret2 rfl (by conv => lhs; whnf) (by conv => lhs; whnf) ?_
    exact ⟨_, rfl, by unfold cmV; rw [if_pos h1, h1, wn_opn h1], ((hE02.trans hE3d).trans hE4).trans hE5⟩
end Go.Proofs.Ytaepdknmagaokaa
