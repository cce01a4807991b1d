/-
  CountExact and ExactBlank.
-/
import Derived.Test.YtgfaimkbedbanaaFKey2
import Derived.Test.YtgfaimkbedbanaaFRise
import Derived.Test.YtgfaimkbedbanaaKey3
namespace Go.Proofs.Ytgfaimkbedbanaa
open B Go.RowKit

theorem l06Exact_any {w : World} {v u : Value} {ws wa : List Int} (hv : SI w v ws) (hu : SI w u wa) (hlen : ws.length ≤ 8) :
    Does Try.prog 53 #[v, u] w (fun v' w' => OV w' w.heap.size 2 v' (ints (xL ws wa)) ∧ Ext w w') := by
  have hK4 := K4_eq
  refine enter Try.func53 rfl 22 Try.ntmps53 rfl (by kernel_rfl) ?_
  refine CW.seq ?_
  refine CW.region ?_
  refine RL.y rfl (y_asg rfl) ?_
  refine RL.nil ?_
  refine Fin.next ?_
  refine CW.seq ?_
  refine CW.region ?_
  refine RL.lit0 rfl sT32 (fun vo w1 ho1 hE1 hb1 => ?_)
  refine RL.y rfl (y_asg (by conv => lhs; whnf)) ?_
  refine RL.nil ?_
  refine Fin.next ?_
  refine CW.seq ?_
  refine CW.seq ?_
  refine CW.region ?_
  refine RL.y rfl (y_asg rfl) ?_
  refine RL.nil ?_
  refine Fin.next ?_
  refine CW.block ?_
  refine CW.loop (fun m E w' => ∃ (k : Nat) (vo : Value), m = K4 - k ∧ k ≤ K4 ∧ agrees E [(0, v), (1, u), (5, vo), (6, .int .i64 (k : Int))] ∧ OV w' w.heap.size 2 vo (ints (idxs (pbx ws wa) k)) ∧ Ext w w') _ (⟨0, vo, rfl, Nat.zero_le _, ⟨rfl, rfl, rfl, rfl, trivial⟩, ho1, hE1⟩) ?_
  · rintro m E w2 ⟨k, vo, rfl, hk, hag, ho2, hE2⟩
    refine CW.re _ hag rfl ?_
    have hle := idxs_le (pbx ws wa) k
    refine CW.seq ?_
    refine CW.seq ?_
    refine CW.region ?_
    refine RL.y rfl (y_mov (v := .int _ _) rfl) ?_
    refine RL.y rfl (y_le rfl rfl) ?_
    refine RL.nil ?_
    refine Fin.next ?_
    refine CW.cond rfl rfl (fun hc => ?_) (fun hc => ?_)
    · with_reducible first | (replace hc := deNF hc) | (replace hc := of_decide_eq_true hc) | (replace hc := of_decide_eq_false hc) | (replace hc := deNT hc) | (replace hc := deNN hc) | (replace hc := bnT hc) | (replace hc := bnF hc) | skip
      have hlt : k < K4 := by omega
      refine CW.skip ?_
      refine Fin.next ?_
      refine CW.seq ?_
      refine CW.block ?_
      refine CW.seq ?_
      refine CW.region ?_
      refine RL.y rfl (y_mov (v := .int _ _) rfl) ?_
      refine RL.y rfl (y_mov (by conv => lhs; whnf)) ?_
      refine RL.call rfl (l06Of_any (hv.ext hE2) (by omega)) ?_
      rintro vq w3 ⟨ho3, hE3⟩
      refine RL.y rfl (y_mov (by conv => lhs; whnf)) ?_
      refine RL.call rfl (l01Same_any ho3.sv (hu.ext (hE2.trans hE3))) ?_
      rintro r w4 ⟨rfl, hE4⟩
      have hE24 := hE3.trans hE4
      have ho4 := ho2.ext hE24
      have hE5 := hE2.trans hE24
      refine RL.nil ?_
      refine Fin.next ?_
      refine CW.cond rfl rfl (fun hc2 => ?_) (fun hc2 => ?_)
      · with_reducible first | (replace hc2 := deNF hc2) | (replace hc2 := of_decide_eq_true hc2) | (replace hc2 := of_decide_eq_false hc2) | (replace hc2 := deNT hc2) | (replace hc2 := deNN hc2) | (replace hc2 := bnT hc2) | (replace hc2 := bnF hc2) | skip
        have hp : pbx ws wa k = true := decide_eq_true hc2
        refine CW.region ?_
        refine RL.y rfl (y_mov (by conv => lhs; whnf)) ?_
        refine RL.y rfl (y_mov (v := .int _ _) rfl) ?_
        refine RL.app1i rfl rfl sT32 (by omega) ho4 (by omega) hE5.size rfl (fun _ => rfl) (fun u v6 w6 ho6 hg6 hn6 => ?_)
        refine RL.y rfl (y_asg (by conv => lhs; whnf)) ?_
        refine RL.nil ?_
        refine Fin.blockNormal ?_
        refine Fin.next ?_
        refine CW.region ?_
        refine RL.y rfl (y_mov (v := .int _ _) rfl) ?_
        refine RL.y rfl (y_add rfl rfl (IntWalk.i64_in _ (by omega))) ?_
        refine RL.y rfl (y_asg (v := .int _ _) rfl) ?_
        refine RL.nil ?_
        refine Fin.le ?_
        exact ⟨K4 - (k + 1), by omega, k + 1, v6, rfl, hlt, ⟨rfl, rfl, rfl, rfl, trivial⟩, by rw [idxs_yes hp]; exact ho6, hE5.grown hg6 (fun b hb => (ho4.lt b hb).1)⟩
      · with_reducible first | (replace hc2 := deNF hc2) | (replace hc2 := of_decide_eq_true hc2) | (replace hc2 := of_decide_eq_false hc2) | (replace hc2 := deNT hc2) | (replace hc2 := deNN hc2) | (replace hc2 := bnT hc2) | (replace hc2 := bnF hc2) | skip
        have hp : pbx ws wa k = false := decide_eq_false hc2
        refine CW.skip ?_
        refine Fin.blockNormal ?_
        refine Fin.next ?_
        refine CW.region ?_
        refine RL.y rfl (y_mov (v := .int _ _) rfl) ?_
        refine RL.y rfl (y_add rfl rfl (IntWalk.i64_in _ (by omega))) ?_
        refine RL.y rfl (y_asg (v := .int _ _) rfl) ?_
        refine RL.nil ?_
        refine Fin.le ?_
        exact ⟨K4 - (k + 1), by omega, k + 1, vo, rfl, hlt, ⟨rfl, rfl, rfl, rfl, trivial⟩, by rw [idxs_no hp]; exact ho4, hE5⟩
    · with_reducible first | (replace hc := deNF hc) | (replace hc := of_decide_eq_true hc) | (replace hc := of_decide_eq_false hc) | (replace hc := deNT hc) | (replace hc := deNN hc) | (replace hc := bnT hc) | (replace hc := bnF hc) | skip
      obtain rfl : k = K4 := by omega
      refine CW.exit ?_
      refine Fin.thenExit ?_
      refine Fin.thenExit ?_
      refine Fin.blockHit ?_
      refine Fin.next ?_
      refine CW.seq ?_
      refine CW.region ?_
      refine RL.y rfl (y_mov (by conv => lhs; whnf)) ?_
      refine RL.y rfl (y_asg (by conv => lhs; whnf)) ?_
      refine RL.nil ?_
      refine Fin.next ?_
      refine CW.ret ?_
      refine Fin.ret1 rfl (by conv => lhs; whnf) ?_
      exact ⟨_, rfl, ho2, hE2⟩

theorem exactBlanks_any {w : World} {v u : Value} {ws wa : List Int} (hv : SI w v ws) (hu : SI w u wa) (hw : waysOk ws) (hr : rises wa (ws.length : Int)) :
    Does Try.prog 55 #[v, u] w (fun r w' => r = .tuple #[.int .i64 (lstF (xL ws wa)), .int .i64 ((xL ws wa).length : Int)] ∧ w = w') := by
  have hK4 := K4_eq
  have hlen : ws.length ≤ 8 := hw.1
  have hul := SI.le hu
  refine enter Try.func55 rfl 60 Try.ntmps55 rfl (by kernel_rfl) ?_
  refine CW.seq ?_
  refine CW.region ?_
  refine RL.y rfl (y_asg rfl) ?_
  refine RL.y rfl (y_asg rfl) ?_
  refine RL.nil ?_
  refine Fin.next ?_
  refine CW.seq ?_
  refine CW.region ?_
  refine RL.y rfl (y_asg rfl) ?_
  refine RL.y rfl (y_asg rfl) ?_
  refine RL.nil ?_
  refine Fin.next ?_
  refine CW.seq ?_
  refine CW.seq ?_
  refine CW.region ?_
  refine RL.y rfl (y_mov rfl) ?_
  refine RL.nil ?_
  refine Fin.next ?_
  refine CW.block ?_
  refine CW.loop (fun m E w' => ∃ k : Nat, m = K4 - k ∧ k ≤ K4 ∧ agrees E [(0, v), (1, u), (6, .int .i64 (lstF (idxs (pbx ws wa) k))), (7, .int .i64 ((idxs (pbx ws wa) k).length : Int)), (14, .int .i64 (k : Int))] ∧ w = w') _ (⟨0, rfl, Nat.zero_le _, ⟨rfl, rfl, rfl, rfl, rfl, trivial⟩, rfl⟩) ?_
  · rintro m E w2 ⟨k, rfl, hk, hag, rfl⟩
    refine CW.re _ hag rfl ?_
    have hle := idxs_le (pbx ws wa) k
    have hnn := idxs_nonneg (pbx ws wa) k
    refine CW.seq ?_
    refine CW.region ?_
    refine RL.y rfl (y_lt rfl rfl) ?_
    refine RL.nil ?_
    refine Fin.next ?_
    refine CW.seq ?_
    refine CW.cond rfl rfl (fun hck => ?_) (fun hck => ?_)
    · with_reducible first | (replace hck := deNF hck) | (replace hck := of_decide_eq_true hck) | (replace hck := of_decide_eq_false hck) | (replace hck := deNT hck) | (replace hck := deNN hck) | (replace hck := bnT hck) | (replace hck := bnF hck) | skip
      have hltk : k < K4 := by omega
      have hpk : prof (k : Int) := ⟨by omega, by omega⟩
      refine CW.skip ?_
      refine Fin.next ?_
      refine CW.seq ?_
      refine CW.block ?_
      refine CW.seq ?_
      refine CW.region ?_
      refine RL.y rfl (y_mov (v := .int _ _) rfl) ?_
      refine RL.y rfl (y_asg (v := .int _ _) rfl) ?_
      refine RL.nil ?_
      refine Fin.next ?_
      refine CW.seq ?_
      refine CW.region ?_
      refine RL.y rfl (y_asg rfl) ?_
      refine RL.y rfl (y_asg rfl) ?_
      refine RL.nil ?_
      refine Fin.next ?_
      refine CW.seq ?_
      refine CW.seq ?_
      refine CW.region ?_
      refine RL.y rfl (y_mov (by conv => lhs; whnf)) ?_
      refine RL.y rfl (y_len sT32 hv (ints_len _) rfl) ?_
      refine RL.y rfl (y_mov rfl) ?_
      refine RL.nil ?_
      refine Fin.next ?_
      refine CW.block ?_
      refine CW.loop (fun q E w' => ∃ i c : Nat, q = ws.length - i ∧ i ≤ ws.length ∧ agrees E [(0, v), (1, u), (6, .int .i64 (lstF (idxs (pbx ws wa) k))), (7, .int .i64 ((idxs (pbx ws wa) k).length : Int)), (14, .int .i64 (k : Int)), (8, .int .i64 (k : Int)), (17, v), (18, .int .i64 ws.length), (9, .int .i64 (c : Int)), (10, .bool (exF (k : Int) ws wa i)), (19, .int .i64 (i : Int))] ∧ Rk wa i c ∧ w = w') _ (⟨0, 0, rfl, Nat.zero_le _, ⟨rfl, rfl, rfl, rfl, rfl, rfl, rfl, rfl, rfl, congrArg Value.bool (by simp [exF]), rfl, trivial⟩, Rk_zero hr, rfl⟩) ?_
      · rintro q E w2 ⟨i, c, rfl, hi, hag, hrk, rfl⟩
        refine CW.re _ hag rfl ?_
        refine CW.seq ?_
        refine CW.region ?_
        refine RL.y rfl (y_lt rfl rfl) ?_
        refine RL.nil ?_
        refine Fin.next ?_
        refine CW.seq ?_
        refine CW.cond rfl rfl (fun hci => ?_) (fun hci => ?_)
        · with_reducible first | (replace hci := deNF hci) | (replace hci := of_decide_eq_true hci) | (replace hci := of_decide_eq_false hci) | (replace hci := deNT hci) | (replace hci := deNN hci) | (replace hci := bnT hci) | (replace hci := bnF hci) | skip
          have hlti : i < ws.length := by omega
          have hcl := hrk.1
          refine CW.skip ?_
          refine Fin.next ?_
          refine CW.seq ?_
          refine CW.block ?_
          refine CW.seq ?_
          refine CW.region ?_
          refine RL.y rfl (y_mov (v := .int _ _) rfl) ?_
          refine RL.y rfl (y_ixa sT32 (eqw (hv)) (k := i) (ints_lt hlti) rfl rfl) ?_
          refine RL.y rfl (y_load sc2 (eqw (hv)) (ints_at hlti) rfl) ?_
          refine RL.y rfl (y_asg (v := .int _ _) rfl) ?_
          refine RL.y rfl (y_asg (v := .int _ _) rfl) ?_
          refine RL.nil ?_
          refine Fin.next ?_
          refine CW.seq ?_
          refine CW.region ?_
          refine RL.y rfl (y_mov (v := .int _ _) rfl) ?_
          refine RL.y rfl (y_mov (by conv => lhs; whnf)) ?_
          refine RL.y rfl (y_len sT32 hu (ints_len _) rfl) ?_
          refine RL.y rfl (y_lt rfl rfl) ?_
          refine RL.y rfl (y_mov (v := .bool _) rfl) ?_
          refine RL.split (t := 28) rfl rfl (fun hb => ?_) (fun hb => ?_)
          · with_reducible first | (replace hb := deNF hb) | (replace hb := of_decide_eq_true hb) | (replace hb := of_decide_eq_false hb) | (replace hb := deNT hb) | (replace hb := deNN hb) | (replace hb := bnT hb) | (replace hb := bnF hb) | skip
            have hbc : c < wa.length := by omega
            have hmem := Rk_mem hr hrk hbc
            refine RL.take (t := 28) rfl rfl rfl ?_
            refine RL.y rfl (y_mov (by conv => lhs; whnf)) ?_
            refine RL.take (t := 28) rfl rfl rfl ?_
            refine RL.y rfl (y_mov (v := .int _ _) rfl) ?_
            refine RL.take (t := 28) rfl rfl rfl ?_
            refine RL.y rfl (y_ixa sT32 (eqw (hu)) (k := c) (ints_lt hbc) rfl rfl) ?_
            refine RL.take (t := 28) rfl rfl rfl ?_
            refine RL.y rfl (y_load sc2 (eqw (hu)) (ints_at hbc) rfl) ?_
            refine RL.take (t := 28) rfl rfl rfl ?_
            refine RL.y rfl (y_mov (v := .int _ _) rfl) ?_
            refine RL.take (t := 28) rfl rfl rfl ?_
            refine RL.y rfl (y_eq rfl rfl) ?_
            refine RL.y rfl (y_pickT (v := .bool _) rfl rfl) ?_
            refine RL.y rfl (y_asg (v := .bool _) rfl) ?_
            refine RL.nil ?_
            refine Fin.next ?_
            refine CW.seq ?_
            refine CW.seq ?_
            refine CW.region ?_
            refine RL.y rfl (y_mov (v := .bool _) rfl) ?_
            refine RL.nil ?_
            refine Fin.next ?_
            refine CW.cond rfl rfl (fun hw2 => ?_) (fun hw2 => ?_)
            · with_reducible first | (replace hw2 := deNF hw2) | (replace hw2 := of_decide_eq_true hw2) | (replace hw2 := of_decide_eq_false hw2) | (replace hw2 := deNT hw2) | (replace hw2 := deNN hw2) | (replace hw2 := bnT hw2) | (replace hw2 := bnF hw2) | skip
              refine CW.region ?_
              refine RL.y rfl (y_mov (v := .int _ _) rfl) ?_
              refine RL.y rfl (y_add rfl rfl (IntWalk.i64_in _ (by omega))) ?_
              refine RL.y rfl (y_asg (v := .int _ _) rfl) ?_
              refine RL.nil ?_
              refine Fin.next ?_
              refine CW.region ?_
              refine RL.y rfl (y_mov (v := .bool _) rfl) ?_
              refine RL.y rfl (y_mov (v := .bool _) rfl) ?_
              refine RL.split (t := 40) rfl rfl (fun hex => ?_) (fun hex => ?_)
              · with_reducible first | (replace hex := deNF hex) | (replace hex := of_decide_eq_true hex) | (replace hex := of_decide_eq_false hex) | (replace hex := deNT hex) | (replace hex := deNN hex) | (replace hex := bnT hex) | (replace hex := bnF hex) | skip
                refine RL.take (t := 40) rfl rfl rfl ?_
                refine RL.y rfl (y_mov (v := .int _ _) rfl) ?_
                refine RL.take (t := 40) rfl rfl rfl ?_
                refine RL.y rfl (y_mov (v := .int _ _) rfl) ?_
                refine RL.take (t := 40) rfl rfl rfl ?_
                refine RL.call rfl (enters_any hpk (waysOk_at hw hlti)) ?_
                rintro r w3 ⟨rfl, rfl⟩
                refine RL.take (t := 40) rfl rfl rfl ?_
                refine RL.y rfl (y_mov (v := .bool _) rfl) ?_
                refine RL.take (t := 40) rfl rfl rfl ?_
                refine RL.y rfl (y_beq Try.underlying4 rfl rfl) ?_
                refine RL.y rfl (y_pickT (v := .bool _) rfl rfl) ?_
                refine RL.y rfl (y_asg (v := .bool _) rfl) ?_
                refine RL.nil ?_
                refine Fin.blockNormal ?_
                refine Fin.next ?_
                refine CW.region ?_
                refine RL.y rfl (y_add rfl rfl (IntWalk.i64_in _ (by omega))) ?_
                refine RL.y rfl (y_mov (v := .int _ _) rfl) ?_
                refine RL.nil ?_
                refine Fin.le ?_
                exact ⟨ws.length - (i + 1), by omega, i + 1, c + 1, rfl, hlti, ⟨rfl, rfl, rfl, rfl, rfl, rfl, rfl, rfl, rfl, exF_yes hlti hex hmem, rfl, trivial⟩, Rk_hit hr hrk hbc hw2, rfl⟩
              · with_reducible first | (replace hex := deNF hex) | (replace hex := of_decide_eq_true hex) | (replace hex := of_decide_eq_false hex) | (replace hex := deNT hex) | (replace hex := deNN hex) | (replace hex := bnT hex) | (replace hex := bnF hex) | skip
                refine RL.pass (t := 40) rfl rfl rfl rfl ?_
                refine RL.pass (t := 40) rfl rfl rfl rfl ?_
                refine RL.pass (t := 40) rfl rfl rfl rfl ?_
                refine RL.pass (t := 40) rfl rfl rfl rfl ?_
                refine RL.pass (t := 40) rfl rfl rfl rfl ?_
                refine RL.y rfl (y_pickF (v := .bool _) rfl rfl) ?_
                refine RL.y rfl (y_asg (v := .bool _) rfl) ?_
                refine RL.nil ?_
                refine Fin.blockNormal ?_
                refine Fin.next ?_
                refine CW.region ?_
                refine RL.y rfl (y_add rfl rfl (IntWalk.i64_in _ (by omega))) ?_
                refine RL.y rfl (y_mov (v := .int _ _) rfl) ?_
                refine RL.nil ?_
                refine Fin.le ?_
                exact ⟨ws.length - (i + 1), by omega, i + 1, c + 1, rfl, hlti, ⟨rfl, rfl, rfl, rfl, rfl, rfl, rfl, rfl, rfl, exF_no hex, rfl, trivial⟩, Rk_hit hr hrk hbc hw2, rfl⟩
            · with_reducible first | (replace hw2 := deNF hw2) | (replace hw2 := of_decide_eq_true hw2) | (replace hw2 := of_decide_eq_false hw2) | (replace hw2 := deNT hw2) | (replace hw2 := deNN hw2) | (replace hw2 := bnT hw2) | (replace hw2 := bnF hw2) | skip
              refine CW.skip ?_
              refine Fin.next ?_
              refine CW.region ?_
              refine RL.y rfl (y_mov (v := .bool _) rfl) ?_
              refine RL.y rfl (y_mov (v := .bool _) rfl) ?_
              refine RL.split (t := 40) rfl rfl (fun hex => ?_) (fun hex => ?_)
              · with_reducible first | (replace hex := deNF hex) | (replace hex := of_decide_eq_true hex) | (replace hex := of_decide_eq_false hex) | (replace hex := deNT hex) | (replace hex := deNN hex) | (replace hex := bnT hex) | (replace hex := bnF hex) | skip
                refine RL.take (t := 40) rfl rfl rfl ?_
                refine RL.y rfl (y_mov (v := .int _ _) rfl) ?_
                refine RL.take (t := 40) rfl rfl rfl ?_
                refine RL.y rfl (y_mov (v := .int _ _) rfl) ?_
                refine RL.take (t := 40) rfl rfl rfl ?_
                refine RL.call rfl (enters_any hpk (waysOk_at hw hlti)) ?_
                rintro r w3 ⟨rfl, rfl⟩
                refine RL.take (t := 40) rfl rfl rfl ?_
                refine RL.y rfl (y_mov (v := .bool _) rfl) ?_
                refine RL.take (t := 40) rfl rfl rfl ?_
                refine RL.y rfl (y_beq Try.underlying4 rfl rfl) ?_
                refine RL.y rfl (y_pickT (v := .bool _) rfl rfl) ?_
                refine RL.y rfl (y_asg (v := .bool _) rfl) ?_
                refine RL.nil ?_
                refine Fin.blockNormal ?_
                refine Fin.next ?_
                refine CW.region ?_
                refine RL.y rfl (y_add rfl rfl (IntWalk.i64_in _ (by omega))) ?_
                refine RL.y rfl (y_mov (v := .int _ _) rfl) ?_
                refine RL.nil ?_
                refine Fin.le ?_
                exact ⟨ws.length - (i + 1), by omega, i + 1, c, rfl, hlti, ⟨rfl, rfl, rfl, rfl, rfl, rfl, rfl, rfl, rfl, exF_yes hlti hex hmem, rfl, trivial⟩, Rk_miss hr hrk (fun _ => hw2), rfl⟩
              · with_reducible first | (replace hex := deNF hex) | (replace hex := of_decide_eq_true hex) | (replace hex := of_decide_eq_false hex) | (replace hex := deNT hex) | (replace hex := deNN hex) | (replace hex := bnT hex) | (replace hex := bnF hex) | skip
                refine RL.pass (t := 40) rfl rfl rfl rfl ?_
                refine RL.pass (t := 40) rfl rfl rfl rfl ?_
                refine RL.pass (t := 40) rfl rfl rfl rfl ?_
                refine RL.pass (t := 40) rfl rfl rfl rfl ?_
                refine RL.pass (t := 40) rfl rfl rfl rfl ?_
                refine RL.y rfl (y_pickF (v := .bool _) rfl rfl) ?_
                refine RL.y rfl (y_asg (v := .bool _) rfl) ?_
                refine RL.nil ?_
                refine Fin.blockNormal ?_
                refine Fin.next ?_
                refine CW.region ?_
                refine RL.y rfl (y_add rfl rfl (IntWalk.i64_in _ (by omega))) ?_
                refine RL.y rfl (y_mov (v := .int _ _) rfl) ?_
                refine RL.nil ?_
                refine Fin.le ?_
                exact ⟨ws.length - (i + 1), by omega, i + 1, c, rfl, hlti, ⟨rfl, rfl, rfl, rfl, rfl, rfl, rfl, rfl, rfl, exF_no hex, rfl, trivial⟩, Rk_miss hr hrk (fun _ => hw2), rfl⟩
          · with_reducible first | (replace hb := deNF hb) | (replace hb := of_decide_eq_true hb) | (replace hb := of_decide_eq_false hb) | (replace hb := deNT hb) | (replace hb := deNN hb) | (replace hb := bnT hb) | (replace hb := bnF hb) | skip
            have hbc : ¬ c < wa.length := by omega
            have hnm := Rk_not hrk hbc
            refine RL.pass (t := 28) rfl rfl rfl rfl ?_
            refine RL.pass (t := 28) rfl rfl rfl rfl ?_
            refine RL.pass (t := 28) rfl rfl rfl rfl ?_
            refine RL.pass (t := 28) rfl rfl rfl rfl ?_
            refine RL.pass (t := 28) rfl rfl rfl rfl ?_
            refine RL.pass (t := 28) rfl rfl rfl rfl ?_
            refine RL.y rfl (y_pickF (v := .bool _) rfl rfl) ?_
            refine RL.y rfl (y_asg (v := .bool _) rfl) ?_
            refine RL.nil ?_
            refine Fin.next ?_
            refine CW.seq ?_
            refine CW.seq ?_
            refine CW.region ?_
            refine RL.y rfl (y_mov (v := .bool _) rfl) ?_
            refine RL.nil ?_
            refine Fin.next ?_
            refine CW.condF rfl rfl ?_
            refine CW.skip ?_
            refine Fin.next ?_
            refine CW.region ?_
            refine RL.y rfl (y_mov (v := .bool _) rfl) ?_
            refine RL.y rfl (y_mov (v := .bool _) rfl) ?_
            refine RL.split (t := 40) rfl rfl (fun hex => ?_) (fun hex => ?_)
            · with_reducible first | (replace hex := deNF hex) | (replace hex := of_decide_eq_true hex) | (replace hex := of_decide_eq_false hex) | (replace hex := deNT hex) | (replace hex := deNN hex) | (replace hex := bnT hex) | (replace hex := bnF hex) | skip
              refine RL.take (t := 40) rfl rfl rfl ?_
              refine RL.y rfl (y_mov (v := .int _ _) rfl) ?_
              refine RL.take (t := 40) rfl rfl rfl ?_
              refine RL.y rfl (y_mov (v := .int _ _) rfl) ?_
              refine RL.take (t := 40) rfl rfl rfl ?_
              refine RL.call rfl (enters_any hpk (waysOk_at hw hlti)) ?_
              rintro r w3 ⟨rfl, rfl⟩
              refine RL.take (t := 40) rfl rfl rfl ?_
              refine RL.y rfl (y_mov (v := .bool _) rfl) ?_
              refine RL.take (t := 40) rfl rfl rfl ?_
              refine RL.y rfl (y_beq Try.underlying4 rfl rfl) ?_
              refine RL.y rfl (y_pickT (v := .bool _) rfl rfl) ?_
              refine RL.y rfl (y_asg (v := .bool _) rfl) ?_
              refine RL.nil ?_
              refine Fin.blockNormal ?_
              refine Fin.next ?_
              refine CW.region ?_
              refine RL.y rfl (y_add rfl rfl (IntWalk.i64_in _ (by omega))) ?_
              refine RL.y rfl (y_mov (v := .int _ _) rfl) ?_
              refine RL.nil ?_
              refine Fin.le ?_
              exact ⟨ws.length - (i + 1), by omega, i + 1, c, rfl, hlti, ⟨rfl, rfl, rfl, rfl, rfl, rfl, rfl, rfl, rfl, exF_yes0 hlti hex hnm, rfl, trivial⟩, Rk_miss hr hrk (fun h => absurd h hbc), rfl⟩
            · with_reducible first | (replace hex := deNF hex) | (replace hex := of_decide_eq_true hex) | (replace hex := of_decide_eq_false hex) | (replace hex := deNT hex) | (replace hex := deNN hex) | (replace hex := bnT hex) | (replace hex := bnF hex) | skip
              refine RL.pass (t := 40) rfl rfl rfl rfl ?_
              refine RL.pass (t := 40) rfl rfl rfl rfl ?_
              refine RL.pass (t := 40) rfl rfl rfl rfl ?_
              refine RL.pass (t := 40) rfl rfl rfl rfl ?_
              refine RL.pass (t := 40) rfl rfl rfl rfl ?_
              refine RL.y rfl (y_pickF (v := .bool _) rfl rfl) ?_
              refine RL.y rfl (y_asg (v := .bool _) rfl) ?_
              refine RL.nil ?_
              refine Fin.blockNormal ?_
              refine Fin.next ?_
              refine CW.region ?_
              refine RL.y rfl (y_add rfl rfl (IntWalk.i64_in _ (by omega))) ?_
              refine RL.y rfl (y_mov (v := .int _ _) rfl) ?_
              refine RL.nil ?_
              refine Fin.le ?_
              exact ⟨ws.length - (i + 1), by omega, i + 1, c, rfl, hlti, ⟨rfl, rfl, rfl, rfl, rfl, rfl, rfl, rfl, rfl, exF_no hex, rfl, trivial⟩, Rk_miss hr hrk (fun h => absurd h hbc), rfl⟩
        · with_reducible first | (replace hci := deNF hci) | (replace hci := of_decide_eq_true hci) | (replace hci := of_decide_eq_false hci) | (replace hci := deNT hci) | (replace hci := deNN hci) | (replace hci := bnT hci) | (replace hci := bnF hci) | skip
          obtain rfl : i = ws.length := by omega
          have hall := exF_all (b := k) hr
          rw [hall]
          refine CW.exit ?_
          refine Fin.thenExit ?_
          refine Fin.thenExit ?_
          refine Fin.blockHit ?_
          refine Fin.next ?_
          refine CW.seq ?_
          refine CW.seq ?_
          refine CW.region ?_
          refine RL.y rfl (y_mov (v := .bool _) rfl) ?_
          refine RL.y rfl (y_mov (v := .bool _) rfl) ?_
          refine RL.split (t := 49) rfl rfl (fun hex => ?_) (fun hex => ?_)
          · with_reducible first | (replace hex := deNF hex) | (replace hex := of_decide_eq_true hex) | (replace hex := of_decide_eq_false hex) | (replace hex := deNT hex) | (replace hex := deNN hex) | (replace hex := bnT hex) | (replace hex := bnF hex) | skip
            refine RL.take (t := 49) rfl rfl rfl ?_
            refine RL.y rfl (y_mov (v := .int _ _) rfl) ?_
            refine RL.take (t := 49) rfl rfl rfl ?_
            refine RL.y rfl (y_lt rfl rfl) ?_
            refine RL.y rfl (y_pickT (v := .bool _) rfl rfl) ?_
            refine RL.nil ?_
            refine Fin.next ?_
            refine CW.cond rfl rfl (fun hneg => ?_) (fun hneg => ?_)
            · with_reducible first | (replace hneg := deNF hneg) | (replace hneg := of_decide_eq_true hneg) | (replace hneg := of_decide_eq_false hneg) | (replace hneg := deNT hneg) | (replace hneg := deNN hneg) | (replace hneg := bnT hneg) | (replace hneg := bnF hneg) | skip
              refine CW.region ?_
              refine RL.y rfl (y_mov (v := .int _ _) rfl) ?_
              refine RL.y rfl (y_asg (v := .int _ _) rfl) ?_
              refine RL.nil ?_
              refine Fin.next ?_
              refine CW.seq ?_
              refine CW.region ?_
              refine RL.y rfl (y_mov (v := .bool _) rfl) ?_
              refine RL.nil ?_
              refine Fin.next ?_
              refine CW.condT rfl (hex) ?_
              refine CW.region ?_
              refine RL.y rfl (y_mov (v := .int _ _) rfl) ?_
              refine RL.y rfl (y_add rfl rfl (IntWalk.i64_in _ (by omega))) ?_
              refine RL.y rfl (y_asg (v := .int _ _) rfl) ?_
              refine RL.nil ?_
              refine Fin.blockNormal ?_
              refine Fin.next ?_
              refine CW.region ?_
              refine RL.y rfl (y_add rfl rfl (IntWalk.i64_in _ (by omega))) ?_
              refine RL.y rfl (y_mov (v := .int _ _) rfl) ?_
              refine RL.nil ?_
              refine Fin.le ?_
              exact ⟨K4 - (k + 1), by omega, k + 1, rfl, hltk, ⟨rfl, rfl, by rw [idxs_yes hex, lstF_nil hneg hnn]; rfl, by rw [idxs_yes hex, List.length_append]; rfl, rfl, trivial⟩, rfl⟩
            · with_reducible first | (replace hneg := deNF hneg) | (replace hneg := of_decide_eq_true hneg) | (replace hneg := of_decide_eq_false hneg) | (replace hneg := deNT hneg) | (replace hneg := deNN hneg) | (replace hneg := bnT hneg) | (replace hneg := bnF hneg) | skip
              refine CW.skip ?_
              refine Fin.next ?_
              refine CW.seq ?_
              refine CW.region ?_
              refine RL.y rfl (y_mov (v := .bool _) rfl) ?_
              refine RL.nil ?_
              refine Fin.next ?_
              refine CW.condT rfl (hex) ?_
              refine CW.region ?_
              refine RL.y rfl (y_mov (v := .int _ _) rfl) ?_
              refine RL.y rfl (y_add rfl rfl (IntWalk.i64_in _ (by omega))) ?_
              refine RL.y rfl (y_asg (v := .int _ _) rfl) ?_
              refine RL.nil ?_
              refine Fin.blockNormal ?_
              refine Fin.next ?_
              refine CW.region ?_
              refine RL.y rfl (y_add rfl rfl (IntWalk.i64_in _ (by omega))) ?_
              refine RL.y rfl (y_mov (v := .int _ _) rfl) ?_
              refine RL.nil ?_
              refine Fin.le ?_
              exact ⟨K4 - (k + 1), by omega, k + 1, rfl, hltk, ⟨rfl, rfl, by rw [idxs_yes hex, lstF_app (by omega)]; rfl, by rw [idxs_yes hex, List.length_append]; rfl, rfl, trivial⟩, rfl⟩
          · with_reducible first | (replace hex := deNF hex) | (replace hex := of_decide_eq_true hex) | (replace hex := of_decide_eq_false hex) | (replace hex := deNT hex) | (replace hex := deNN hex) | (replace hex := bnT hex) | (replace hex := bnF hex) | skip
            refine RL.pass (t := 49) rfl rfl rfl rfl ?_
            refine RL.pass (t := 49) rfl rfl rfl rfl ?_
            refine RL.y rfl (y_pickF (v := .bool _) rfl rfl) ?_
            refine RL.nil ?_
            refine Fin.next ?_
            refine CW.condF rfl rfl ?_
            refine CW.skip ?_
            refine Fin.next ?_
            refine CW.seq ?_
            refine CW.region ?_
            refine RL.y rfl (y_mov (v := .bool _) rfl) ?_
            refine RL.nil ?_
            refine Fin.next ?_
            refine CW.condF rfl (hex) ?_
            refine CW.skip ?_
            refine Fin.blockNormal ?_
            refine Fin.next ?_
            refine CW.region ?_
            refine RL.y rfl (y_add rfl rfl (IntWalk.i64_in _ (by omega))) ?_
            refine RL.y rfl (y_mov (v := .int _ _) rfl) ?_
            refine RL.nil ?_
            refine Fin.le ?_
            exact ⟨K4 - (k + 1), by omega, k + 1, rfl, hltk, ⟨rfl, rfl, by rw [idxs_no hex]; rfl, by rw [idxs_no hex]; rfl, rfl, trivial⟩, rfl⟩
    · with_reducible first | (replace hck := deNF hck) | (replace hck := of_decide_eq_true hck) | (replace hck := of_decide_eq_false hck) | (replace hck := deNT hck) | (replace hck := deNN hck) | (replace hck := bnT hck) | (replace hck := bnF hck) | skip
      obtain rfl : k = K4 := by omega
      refine CW.exit ?_
      refine Fin.thenExit ?_
      refine Fin.thenExit ?_
      refine Fin.blockHit ?_
      refine Fin.next ?_
      refine CW.seq ?_
      refine CW.region ?_
      refine RL.y rfl (y_mov (v := .int _ _) rfl) ?_
      refine RL.y rfl (y_mov (v := .int _ _) rfl) ?_
      refine RL.y rfl (y_asg (v := .int _ _) rfl) ?_
      refine RL.y rfl (y_asg (v := .int _ _) rfl) ?_
      refine RL.nil ?_
      refine Fin.next ?_
      refine CW.ret ?_
      refine Fin.ret2 rfl (by conv => lhs; whnf) (by conv => lhs; whnf) ?_
      exact ⟨_, rfl, rfl, rfl⟩

theorem specCountExact_any {w : World} {v u : Value} {ws wa : List Int} (hv : SI w v ws) (hu : SI w u wa) :
    Does Try.prog 29 #[v, u] w (fun r w' => r = .tuple #[.int .i64 (ceV ws wa), .int .i64 (ceC ws wa)] ∧ Ext w w') := by
  have hK4 := K4_eq
  refine enter Try.func29 rfl 20 Try.ntmps29 rfl (by kernel_rfl) ?_
  refine CW.seq ?_
  refine CW.region ?_
  refine RL.y rfl (y_asg rfl) ?_
  refine RL.y rfl (y_asg rfl) ?_
  refine RL.nil ?_
  refine Fin.next ?_
  refine CW.seq ?_
  refine CW.seq ?_
  refine CW.region ?_
  refine RL.y rfl (y_mov (by conv => lhs; whnf)) ?_
  refine RL.call rfl (l06Ways_any hv) ?_
  rintro r w3 ⟨rfl, rfl⟩
  refine RL.y rfl (y_not rfl) ?_
  refine RL.y rfl (y_mov (v := .bool _) rfl) ?_
  refine RL.split (t := 9) rfl rfl (fun hb => ?_) (fun hb => ?_)
  · with_reducible first | (replace hb := deNF hb) | (replace hb := of_decide_eq_true hb) | (replace hb := of_decide_eq_false hb) | (replace hb := deNT hb) | (replace hb := deNN hb) | (replace hb := bnT hb) | (replace hb := bnF hb) | skip
    refine RL.pass (t := 9) rfl rfl rfl rfl ?_
    refine RL.pass (t := 9) rfl rfl rfl rfl ?_
    refine RL.pass (t := 9) rfl rfl rfl rfl ?_
    refine RL.pass (t := 9) rfl rfl rfl rfl ?_
    refine RL.pass (t := 9) rfl rfl rfl rfl ?_
    refine RL.y rfl (y_pickT (v := .bool _) rfl rfl) ?_
    refine RL.nil ?_
    refine Fin.next ?_
    refine CW.condT rfl rfl ?_
    refine CW.seq ?_
    refine CW.region ?_
    refine RL.y rfl (y_asg rfl) ?_
    refine RL.y rfl (y_asg rfl) ?_
    refine RL.nil ?_
    refine Fin.next ?_
    refine CW.ret ?_
    refine Fin.thenRet ?_
    refine Fin.ret2 rfl (by conv => lhs; whnf) (by conv => lhs; whnf) ?_
    exact ⟨_, rfl, by simp [ceV, ceC, xOk, hb], Ext.refl _⟩
  · with_reducible first | (replace hb := deNF hb) | (replace hb := of_decide_eq_true hb) | (replace hb := of_decide_eq_false hb) | (replace hb := deNT hb) | (replace hb := deNN hb) | (replace hb := bnT hb) | (replace hb := bnF hb) | skip
    refine RL.take (t := 9) rfl rfl rfl ?_
    refine RL.y rfl (y_mov (by conv => lhs; whnf)) ?_
    refine RL.take (t := 9) rfl rfl rfl ?_
    refine RL.y rfl (y_mov (by conv => lhs; whnf)) ?_
    refine RL.take (t := 9) rfl rfl rfl ?_
    refine RL.y rfl (y_len sT32 hv (ints_len _) rfl) ?_
    refine RL.take (t := 9) rfl rfl rfl ?_
    refine RL.call rfl (l01Rises_any hu) ?_
    rintro r w3 ⟨rfl, hE3⟩
    refine RL.take (t := 9) rfl rfl rfl ?_
    refine RL.y rfl (y_not rfl) ?_
    refine RL.y rfl (y_pickF (v := .bool _) rfl rfl) ?_
    refine RL.nil ?_
    refine Fin.next ?_
    refine CW.cond rfl rfl (fun hc => ?_) (fun hc => ?_)
    · with_reducible first | (replace hc := deNF hc) | (replace hc := of_decide_eq_true hc) | (replace hc := of_decide_eq_false hc) | (replace hc := deNT hc) | (replace hc := deNN hc) | (replace hc := bnT hc) | (replace hc := bnF hc) | skip
      refine CW.seq ?_
      refine CW.region ?_
      refine RL.y rfl (y_asg rfl) ?_
      refine RL.y rfl (y_asg rfl) ?_
      refine RL.nil ?_
      refine Fin.next ?_
      refine CW.ret ?_
      refine Fin.thenRet ?_
      refine Fin.ret2 rfl (by conv => lhs; whnf) (by conv => lhs; whnf) ?_
      exact ⟨_, rfl, by simp [ceV, ceC, xOk, hc], hE3⟩
    · with_reducible first | (replace hc := deNF hc) | (replace hc := of_decide_eq_true hc) | (replace hc := of_decide_eq_false hc) | (replace hc := deNT hc) | (replace hc := deNN hc) | (replace hc := bnT hc) | (replace hc := bnF hc) | skip
      refine CW.skip ?_
      refine Fin.next ?_
      refine CW.seq ?_
      refine CW.region ?_
      refine RL.y rfl (y_mov (by conv => lhs; whnf)) ?_
      refine RL.y rfl (y_mov (by conv => lhs; whnf)) ?_
      refine RL.call rfl (l06Exact_any (hv.ext hE3) (hu.ext hE3) hb.1) ?_
      rintro vl w4 ⟨ho4, hE4⟩
      refine RL.y rfl (y_len sT32 ho4.sv (ints_len _) rfl) ?_
      refine RL.y rfl (y_asg (v := .int _ _) rfl) ?_
      refine RL.y rfl (y_asg rfl) ?_
      refine RL.nil ?_
      refine Fin.next ?_
      refine CW.ret ?_
      refine Fin.ret2 rfl (by conv => lhs; whnf) (by conv => lhs; whnf) ?_
      exact ⟨_, rfl, by simp [ceV, ceC, xOk, hb, hc], hE3.trans hE4⟩

theorem implCountExact_any {w : World} {v u : Value} {ws wa : List Int} (hv : SI w v ws) (hu : SI w u wa) :
    Does Try.prog 30 #[v, u] w (fun r w' => r = .tuple #[.int .i64 (ceV ws wa), .int .i64 (ceC ws wa)] ∧ w = w') := by
  have hK4 := K4_eq
  refine enter Try.func30 rfl 25 Try.ntmps30 rfl (by kernel_rfl) ?_
  refine CW.seq ?_
  refine CW.region ?_
  refine RL.y rfl (y_asg rfl) ?_
  refine RL.y rfl (y_asg rfl) ?_
  refine RL.nil ?_
  refine Fin.next ?_
  refine CW.seq ?_
  refine CW.seq ?_
  refine CW.region ?_
  refine RL.y rfl (y_mov (by conv => lhs; whnf)) ?_
  refine RL.call rfl (areWays_any hv) ?_
  rintro r w3 ⟨rfl, rfl⟩
  refine RL.y rfl (y_not rfl) ?_
  refine RL.y rfl (y_mov (v := .bool _) rfl) ?_
  refine RL.split (t := 11) rfl rfl (fun hb => ?_) (fun hb => ?_)
  · with_reducible first | (replace hb := deNF hb) | (replace hb := of_decide_eq_true hb) | (replace hb := of_decide_eq_false hb) | (replace hb := deNT hb) | (replace hb := deNN hb) | (replace hb := bnT hb) | (replace hb := bnF hb) | skip
    refine RL.pass (t := 11) rfl rfl rfl rfl ?_
    refine RL.pass (t := 11) rfl rfl rfl rfl ?_
    refine RL.pass (t := 11) rfl rfl rfl rfl ?_
    refine RL.pass (t := 11) rfl rfl rfl rfl ?_
    refine RL.pass (t := 11) rfl rfl rfl rfl ?_
    refine RL.y rfl (y_pickT (v := .bool _) rfl rfl) ?_
    refine RL.nil ?_
    refine Fin.next ?_
    refine CW.condT rfl rfl ?_
    refine CW.seq ?_
    refine CW.region ?_
    refine RL.y rfl (y_asg rfl) ?_
    refine RL.y rfl (y_asg rfl) ?_
    refine RL.nil ?_
    refine Fin.next ?_
    refine CW.ret ?_
    refine Fin.thenRet ?_
    refine Fin.ret2 rfl (by conv => lhs; whnf) (by conv => lhs; whnf) ?_
    exact ⟨_, rfl, by simp [ceV, ceC, xOk, hb], rfl⟩
  · with_reducible first | (replace hb := deNF hb) | (replace hb := of_decide_eq_true hb) | (replace hb := of_decide_eq_false hb) | (replace hb := deNT hb) | (replace hb := deNN hb) | (replace hb := bnT hb) | (replace hb := bnF hb) | skip
    refine RL.take (t := 11) rfl rfl rfl ?_
    refine RL.y rfl (y_mov (by conv => lhs; whnf)) ?_
    refine RL.take (t := 11) rfl rfl rfl ?_
    refine RL.y rfl (y_mov (by conv => lhs; whnf)) ?_
    refine RL.take (t := 11) rfl rfl rfl ?_
    refine RL.y rfl (y_len sT32 hv (ints_len _) rfl) ?_
    refine RL.take (t := 11) rfl rfl rfl ?_
    refine RL.call rfl (IsRising_any hu) ?_
    rintro r w3 ⟨rfl, rfl⟩
    refine RL.take (t := 11) rfl rfl rfl ?_
    refine RL.y rfl (y_not rfl) ?_
    refine RL.y rfl (y_pickF (v := .bool _) rfl rfl) ?_
    refine RL.nil ?_
    refine Fin.next ?_
    refine CW.cond rfl rfl (fun hc => ?_) (fun hc => ?_)
    · with_reducible first | (replace hc := deNF hc) | (replace hc := of_decide_eq_true hc) | (replace hc := of_decide_eq_false hc) | (replace hc := deNT hc) | (replace hc := deNN hc) | (replace hc := bnT hc) | (replace hc := bnF hc) | skip
      refine CW.seq ?_
      refine CW.region ?_
      refine RL.y rfl (y_asg rfl) ?_
      refine RL.y rfl (y_asg rfl) ?_
      refine RL.nil ?_
      refine Fin.next ?_
      refine CW.ret ?_
      refine Fin.thenRet ?_
      refine Fin.ret2 rfl (by conv => lhs; whnf) (by conv => lhs; whnf) ?_
      exact ⟨_, rfl, by simp [ceV, ceC, xOk, hc], rfl⟩
    · with_reducible first | (replace hc := deNF hc) | (replace hc := of_decide_eq_true hc) | (replace hc := of_decide_eq_false hc) | (replace hc := deNT hc) | (replace hc := deNN hc) | (replace hc := bnT hc) | (replace hc := bnF hc) | skip
      refine CW.skip ?_
      refine Fin.next ?_
      refine CW.seq ?_
      refine CW.region ?_
      refine RL.y rfl (y_mov (by conv => lhs; whnf)) ?_
      refine RL.y rfl (y_mov (by conv => lhs; whnf)) ?_
      refine RL.call rfl (exactBlanks_any hv hu hb hc) ?_
      rintro r w4 ⟨rfl, rfl⟩
      refine RL.y rfl (y_mov (by conv => lhs; whnf)) ?_
      refine RL.y rfl (y_ext0 rfl) ?_
      refine RL.y rfl (y_ext1 rfl) ?_
      refine RL.y rfl (y_asg (v := .int _ _) rfl) ?_
      refine RL.y rfl (y_asg (v := .int _ _) rfl) ?_
      refine RL.nil ?_
      refine Fin.next ?_
      refine CW.seq ?_
      refine CW.region ?_
      refine RL.y rfl (y_mov (v := .int _ _) rfl) ?_
      refine RL.y rfl (y_asg (v := .int _ _) rfl) ?_
      refine RL.y rfl (y_asg rfl) ?_
      refine RL.nil ?_
      refine Fin.next ?_
      refine CW.ret ?_
      refine Fin.ret2 rfl (by conv => lhs; whnf) (by conv => lhs; whnf) ?_
      exact ⟨_, rfl, by simp [ceV, ceC, xOk, hb, hc], rfl⟩

theorem specExactBlank_any {w : World} {v u : Value} {ws wa : List Int} (hv : SI w v ws) (hu : SI w u wa) :
    Does Try.prog 31 #[v, u] w (fun r w' => r = .tuple #[.int .i64 (ebV ws wa), .int .i64 (ebC ws wa)] ∧ Ext w w') := by
  have hK4 := K4_eq
  refine enter Try.func31 rfl 26 Try.ntmps31 rfl (by kernel_rfl) ?_
  refine CW.seq ?_
  refine CW.region ?_
  refine RL.y rfl (y_asg rfl) ?_
  refine RL.y rfl (y_asg rfl) ?_
  refine RL.nil ?_
  refine Fin.next ?_
  refine CW.seq ?_
  refine CW.seq ?_
  refine CW.region ?_
  refine RL.y rfl (y_mov (by conv => lhs; whnf)) ?_
  refine RL.call rfl (l06Ways_any hv) ?_
  rintro r w3 ⟨rfl, rfl⟩
  refine RL.y rfl (y_not rfl) ?_
  refine RL.y rfl (y_mov (v := .bool _) rfl) ?_
  refine RL.split (t := 10) rfl rfl (fun hb => ?_) (fun hb => ?_)
  · with_reducible first | (replace hb := deNF hb) | (replace hb := of_decide_eq_true hb) | (replace hb := of_decide_eq_false hb) | (replace hb := deNT hb) | (replace hb := deNN hb) | (replace hb := bnT hb) | (replace hb := bnF hb) | skip
    refine RL.pass (t := 10) rfl rfl rfl rfl ?_
    refine RL.pass (t := 10) rfl rfl rfl rfl ?_
    refine RL.pass (t := 10) rfl rfl rfl rfl ?_
    refine RL.pass (t := 10) rfl rfl rfl rfl ?_
    refine RL.pass (t := 10) rfl rfl rfl rfl ?_
    refine RL.y rfl (y_pickT (v := .bool _) rfl rfl) ?_
    refine RL.nil ?_
    refine Fin.next ?_
    refine CW.condT rfl rfl ?_
    refine CW.seq ?_
    refine CW.region ?_
    refine RL.y rfl (y_asg rfl) ?_
    refine RL.y rfl (y_asg rfl) ?_
    refine RL.nil ?_
    refine Fin.next ?_
    refine CW.ret ?_
    refine Fin.thenRet ?_
    refine Fin.ret2 rfl (by conv => lhs; whnf) (by conv => lhs; whnf) ?_
    exact ⟨_, rfl, by simp [ebV, ebC, xOk, hb], Ext.refl _⟩
  · with_reducible first | (replace hb := deNF hb) | (replace hb := of_decide_eq_true hb) | (replace hb := of_decide_eq_false hb) | (replace hb := deNT hb) | (replace hb := deNN hb) | (replace hb := bnT hb) | (replace hb := bnF hb) | skip
    refine RL.take (t := 10) rfl rfl rfl ?_
    refine RL.y rfl (y_mov (by conv => lhs; whnf)) ?_
    refine RL.take (t := 10) rfl rfl rfl ?_
    refine RL.y rfl (y_mov (by conv => lhs; whnf)) ?_
    refine RL.take (t := 10) rfl rfl rfl ?_
    refine RL.y rfl (y_len sT32 hv (ints_len _) rfl) ?_
    refine RL.take (t := 10) rfl rfl rfl ?_
    refine RL.call rfl (l01Rises_any hu) ?_
    rintro r w3 ⟨rfl, hE3⟩
    refine RL.take (t := 10) rfl rfl rfl ?_
    refine RL.y rfl (y_not rfl) ?_
    refine RL.y rfl (y_pickF (v := .bool _) rfl rfl) ?_
    refine RL.nil ?_
    refine Fin.next ?_
    refine CW.cond rfl rfl (fun hc => ?_) (fun hc => ?_)
    · with_reducible first | (replace hc := deNF hc) | (replace hc := of_decide_eq_true hc) | (replace hc := of_decide_eq_false hc) | (replace hc := deNT hc) | (replace hc := deNN hc) | (replace hc := bnT hc) | (replace hc := bnF hc) | skip
      refine CW.seq ?_
      refine CW.region ?_
      refine RL.y rfl (y_asg rfl) ?_
      refine RL.y rfl (y_asg rfl) ?_
      refine RL.nil ?_
      refine Fin.next ?_
      refine CW.ret ?_
      refine Fin.thenRet ?_
      refine Fin.ret2 rfl (by conv => lhs; whnf) (by conv => lhs; whnf) ?_
      exact ⟨_, rfl, by simp [ebV, ebC, xOk, hc], hE3⟩
    · with_reducible first | (replace hc := deNF hc) | (replace hc := of_decide_eq_true hc) | (replace hc := of_decide_eq_false hc) | (replace hc := deNT hc) | (replace hc := deNN hc) | (replace hc := bnT hc) | (replace hc := bnF hc) | skip
      have hx : xOk ws wa := ⟨hb, hc⟩
      refine CW.skip ?_
      refine Fin.next ?_
      refine CW.seq ?_
      refine CW.region ?_
      refine RL.y rfl (y_mov (by conv => lhs; whnf)) ?_
      refine RL.y rfl (y_mov (by conv => lhs; whnf)) ?_
      refine RL.call rfl (l06Exact_any (hv.ext hE3) (hu.ext hE3) hb.1) ?_
      rintro vl w4 ⟨ho4, hE4⟩
      refine RL.y rfl (y_asg (by conv => lhs; whnf)) ?_
      refine RL.nil ?_
      refine Fin.next ?_
      refine CW.seq ?_
      refine CW.seq ?_
      refine CW.region ?_
      refine RL.y rfl (y_mov (by conv => lhs; whnf)) ?_
      refine RL.y rfl (y_len sT32 ho4.sv (ints_len _) rfl) ?_
      refine RL.y rfl (y_eq rfl rfl) ?_
      refine RL.nil ?_
      refine Fin.next ?_
      refine CW.cond rfl rfl (fun hl => ?_) (fun hl => ?_)
      · with_reducible first | (replace hl := deNF hl) | (replace hl := of_decide_eq_true hl) | (replace hl := of_decide_eq_false hl) | (replace hl := deNT hl) | (replace hl := deNN hl) | (replace hl := bnT hl) | (replace hl := bnF hl) | skip
        have hl0 : (xL ws wa).length = 0 := by omega
        refine CW.seq ?_
        refine CW.region ?_
        refine RL.y rfl (y_asg rfl) ?_
        refine RL.y rfl (y_asg rfl) ?_
        refine RL.nil ?_
        refine Fin.next ?_
        refine CW.ret ?_
        refine Fin.thenRet ?_
        refine Fin.ret2 rfl (by conv => lhs; whnf) (by conv => lhs; whnf) ?_
        exact ⟨_, rfl, by simp [ebV, ebC, hx, hl0], hE3.trans hE4⟩
      · with_reducible first | (replace hl := deNF hl) | (replace hl := of_decide_eq_true hl) | (replace hl := of_decide_eq_false hl) | (replace hl := deNT hl) | (replace hl := deNN hl) | (replace hl := bnT hl) | (replace hl := bnF hl) | skip
        have hl0 : (xL ws wa).length ≠ 0 := by omega
        have hl1 : 0 < (xL ws wa).length := by omega
        refine CW.skip ?_
        refine Fin.next ?_
        refine CW.seq ?_
        refine CW.region ?_
        refine RL.y rfl (y_mov (by conv => lhs; whnf)) ?_
        refine RL.y rfl (y_ixa sT32 (eqw (ho4.sv)) (k := 0) (ints_lt hl1) rfl rfl) ?_
        refine RL.y rfl (y_load sc2 (eqw (ho4.sv)) (ints_at hl1) rfl) ?_
        refine RL.y rfl (y_asg (v := .int _ _) rfl) ?_
        refine RL.y rfl (y_asg rfl) ?_
        refine RL.nil ?_
        refine Fin.next ?_
        refine CW.ret ?_
        refine Fin.ret2 rfl (by conv => lhs; whnf) (by conv => lhs; whnf) ?_
        exact ⟨_, rfl, by rw [ebV, ebC, if_pos ⟨hx, hl0⟩, if_pos hx, if_neg hl0, lstF_first hl1], hE3.trans hE4⟩

theorem implExactBlank_any {w : World} {v u : Value} {ws wa : List Int} (hv : SI w v ws) (hu : SI w u wa) :
    Does Try.prog 32 #[v, u] w (fun r w' => r = .tuple #[.int .i64 (ebV ws wa), .int .i64 (ebC ws wa)] ∧ w = w') := by
  have hK4 := K4_eq
  refine enter Try.func32 rfl 27 Try.ntmps32 rfl (by kernel_rfl) ?_
  refine CW.seq ?_
  refine CW.region ?_
  refine RL.y rfl (y_asg rfl) ?_
  refine RL.y rfl (y_asg rfl) ?_
  refine RL.nil ?_
  refine Fin.next ?_
  refine CW.seq ?_
  refine CW.seq ?_
  refine CW.region ?_
  refine RL.y rfl (y_mov (by conv => lhs; whnf)) ?_
  refine RL.call rfl (areWays_any hv) ?_
  rintro r w3 ⟨rfl, rfl⟩
  refine RL.y rfl (y_not rfl) ?_
  refine RL.y rfl (y_mov (v := .bool _) rfl) ?_
  refine RL.split (t := 11) rfl rfl (fun hb => ?_) (fun hb => ?_)
  · with_reducible first | (replace hb := deNF hb) | (replace hb := of_decide_eq_true hb) | (replace hb := of_decide_eq_false hb) | (replace hb := deNT hb) | (replace hb := deNN hb) | (replace hb := bnT hb) | (replace hb := bnF hb) | skip
    refine RL.pass (t := 11) rfl rfl rfl rfl ?_
    refine RL.pass (t := 11) rfl rfl rfl rfl ?_
    refine RL.pass (t := 11) rfl rfl rfl rfl ?_
    refine RL.pass (t := 11) rfl rfl rfl rfl ?_
    refine RL.pass (t := 11) rfl rfl rfl rfl ?_
    refine RL.y rfl (y_pickT (v := .bool _) rfl rfl) ?_
    refine RL.nil ?_
    refine Fin.next ?_
    refine CW.condT rfl rfl ?_
    refine CW.seq ?_
    refine CW.region ?_
    refine RL.y rfl (y_asg rfl) ?_
    refine RL.y rfl (y_asg rfl) ?_
    refine RL.nil ?_
    refine Fin.next ?_
    refine CW.ret ?_
    refine Fin.thenRet ?_
    refine Fin.ret2 rfl (by conv => lhs; whnf) (by conv => lhs; whnf) ?_
    exact ⟨_, rfl, by simp [ebV, ebC, xOk, hb], rfl⟩
  · with_reducible first | (replace hb := deNF hb) | (replace hb := of_decide_eq_true hb) | (replace hb := of_decide_eq_false hb) | (replace hb := deNT hb) | (replace hb := deNN hb) | (replace hb := bnT hb) | (replace hb := bnF hb) | skip
    refine RL.take (t := 11) rfl rfl rfl ?_
    refine RL.y rfl (y_mov (by conv => lhs; whnf)) ?_
    refine RL.take (t := 11) rfl rfl rfl ?_
    refine RL.y rfl (y_mov (by conv => lhs; whnf)) ?_
    refine RL.take (t := 11) rfl rfl rfl ?_
    refine RL.y rfl (y_len sT32 hv (ints_len _) rfl) ?_
    refine RL.take (t := 11) rfl rfl rfl ?_
    refine RL.call rfl (IsRising_any hu) ?_
    rintro r w3 ⟨rfl, rfl⟩
    refine RL.take (t := 11) rfl rfl rfl ?_
    refine RL.y rfl (y_not rfl) ?_
    refine RL.y rfl (y_pickF (v := .bool _) rfl rfl) ?_
    refine RL.nil ?_
    refine Fin.next ?_
    refine CW.cond rfl rfl (fun hc => ?_) (fun hc => ?_)
    · with_reducible first | (replace hc := deNF hc) | (replace hc := of_decide_eq_true hc) | (replace hc := of_decide_eq_false hc) | (replace hc := deNT hc) | (replace hc := deNN hc) | (replace hc := bnT hc) | (replace hc := bnF hc) | skip
      refine CW.seq ?_
      refine CW.region ?_
      refine RL.y rfl (y_asg rfl) ?_
      refine RL.y rfl (y_asg rfl) ?_
      refine RL.nil ?_
      refine Fin.next ?_
      refine CW.ret ?_
      refine Fin.thenRet ?_
      refine Fin.ret2 rfl (by conv => lhs; whnf) (by conv => lhs; whnf) ?_
      exact ⟨_, rfl, by simp [ebV, ebC, xOk, hc], rfl⟩
    · with_reducible first | (replace hc := deNF hc) | (replace hc := of_decide_eq_true hc) | (replace hc := of_decide_eq_false hc) | (replace hc := deNT hc) | (replace hc := deNN hc) | (replace hc := bnT hc) | (replace hc := bnF hc) | skip
      have hx : xOk ws wa := ⟨hb, hc⟩
      have hneg := lstF_neg (idxs_nonneg (pbx ws wa) K4)
      refine CW.skip ?_
      refine Fin.next ?_
      refine CW.seq ?_
      refine CW.region ?_
      refine RL.y rfl (y_mov (by conv => lhs; whnf)) ?_
      refine RL.y rfl (y_mov (by conv => lhs; whnf)) ?_
      refine RL.call rfl (exactBlanks_any hv hu hb hc) ?_
      rintro r w4 ⟨rfl, rfl⟩
      refine RL.y rfl (y_mov (by conv => lhs; whnf)) ?_
      refine RL.y rfl (y_ext0 rfl) ?_
      refine RL.y rfl (y_ext1 rfl) ?_
      refine RL.y rfl (y_asg (v := .int _ _) rfl) ?_
      refine RL.y rfl (y_asg (v := .int _ _) rfl) ?_
      refine RL.nil ?_
      refine Fin.next ?_
      refine CW.seq ?_
      refine CW.seq ?_
      refine CW.region ?_
      refine RL.y rfl (y_mov (v := .int _ _) rfl) ?_
      refine RL.y rfl (y_lt rfl rfl) ?_
      refine RL.nil ?_
      refine Fin.next ?_
      refine CW.cond rfl rfl (fun hl => ?_) (fun hl => ?_)
      · with_reducible first | (replace hl := deNF hl) | (replace hl := of_decide_eq_true hl) | (replace hl := of_decide_eq_false hl) | (replace hl := deNT hl) | (replace hl := deNN hl) | (replace hl := bnT hl) | (replace hl := bnF hl) | skip
        have hl0 : (xL ws wa).length = 0 := hneg.1 hl
        refine CW.seq ?_
        refine CW.region ?_
        refine RL.y rfl (y_asg rfl) ?_
        refine RL.y rfl (y_asg rfl) ?_
        refine RL.nil ?_
        refine Fin.next ?_
        refine CW.ret ?_
        refine Fin.thenRet ?_
        refine Fin.ret2 rfl (by conv => lhs; whnf) (by conv => lhs; whnf) ?_
        exact ⟨_, rfl, by simp [ebV, ebC, hx, hl0], rfl⟩
      · with_reducible first | (replace hl := deNF hl) | (replace hl := of_decide_eq_true hl) | (replace hl := of_decide_eq_false hl) | (replace hl := deNT hl) | (replace hl := deNN hl) | (replace hl := bnT hl) | (replace hl := bnF hl) | skip
        have hl0 : (xL ws wa).length ≠ 0 := fun h => hl (hneg.2 h)
        refine CW.skip ?_
        refine Fin.next ?_
        refine CW.seq ?_
        refine CW.region ?_
        refine RL.y rfl (y_mov (v := .int _ _) rfl) ?_
        refine RL.y rfl (y_asg (v := .int _ _) rfl) ?_
        refine RL.y rfl (y_asg rfl) ?_
        refine RL.nil ?_
        refine Fin.next ?_
        refine CW.ret ?_
        refine Fin.ret2 rfl (by conv => lhs; whnf) (by conv => lhs; whnf) ?_
        exact ⟨_, rfl, by rw [ebV, ebC, if_pos ⟨hx, hl0⟩, if_pos hx, if_neg hl0], rfl⟩
end Go.Proofs.Ytgfaimkbedbanaa
