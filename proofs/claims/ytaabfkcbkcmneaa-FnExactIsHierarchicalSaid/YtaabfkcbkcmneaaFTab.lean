/-
  Tables of access: the functions of the reference and of the program.
-/
import Derived.Test.YtaabfkcbkcmneaaFNum
import Derived.Test.YtaabfkcbkcmneaaFNest
import Derived.Test.YtaabfkcbkcmneaaTab
import Derived.Test.YtaabfkcbkcmneaaCut
import Derived.Test.YtaabfkcbkcmneaaTape
namespace Go.Proofs.Ytaabfkcbkcmneaa
open B Go.RowKit

theorem specIsTable_any {w : World} {v : Value} {rs : List (List Int)} (hv : RdSS w v rs) :
    Does Try.prog 9 #[v] w (fun r w' => r = .bool (decide (tbl rs)) ∧ Ext w w') := by
  obtain ⟨cs, hc⟩ := hv
  have hxl := hc.le
  refine enter Try.func9 rfl 52 Try.ntmps9 rfl (by kernel_rfl) ?_
  refine CW.seq ?_
  refine CW.region ?_
  refine RL.y rfl (y_asg rfl) ?_
  refine RL.nil ?_
  refine Fin.next ?_
  refine CW.seq ?_
  refine CW.seq ?_
  refine CW.region ?_
  refine RL.y rfl (y_mov (by conv => lhs; whnf)) ?_
  refine RL.y rfl (y_len sT22 hc.1 hc.2.1 rfl) ?_
  refine RL.call rfl (l01In_any) ?_
  rintro r w1 ⟨rfl, rfl⟩
  refine RL.y rfl (y_not rfl) ?_
  refine RL.nil ?_
  refine Fin.next ?_
  refine CW.cond rfl rfl (fun h10 => ?_) (fun h10 => ?_)
  · with_reducible first | (replace h10 := deNF h10) | (replace h10 := of_decide_eq_true h10) | (replace h10 := of_decide_eq_false h10) | (replace h10 := deNT h10) | (replace h10 := deNN h10) | (replace h10 := bnT h10) | (replace h10 := bnF h10) | skip
    refine CW.seq ?_
    refine CW.region ?_
    refine RL.y rfl (y_asg rfl) ?_
    refine RL.nil ?_
    refine Fin.next ?_
    refine CW.ret ?_
    refine Fin.thenRet ?_
    refine Fin.ret1 rfl (by conv => lhs; whnf) ?_
    exact ⟨_, rfl, bF (fun h => h10 (by have := h.1; omega)), Ext.refl w⟩
  · with_reducible first | (replace h10 := deNF h10) | (replace h10 := of_decide_eq_true h10) | (replace h10 := of_decide_eq_false h10) | (replace h10 := deNT h10) | (replace h10 := deNN h10) | (replace h10 := bnT h10) | (replace h10 := bnF h10) | skip
    have h0 : 0 < rs.length := by omega
    have hm : (rs.getD 0 []).length = tblM rs := rfl
    refine CW.skip ?_
    refine Fin.next ?_
    refine CW.seq ?_
    refine CW.seq ?_
    refine CW.region ?_
    refine RL.y rfl (y_asg rfl) ?_
    refine RL.nil ?_
    refine Fin.next ?_
    refine CW.block ?_
    refine CW.loop (fun m E w' => ∃ i : Nat, m = rs.length - i ∧ i ≤ rs.length ∧ agrees E [(0, v), (3, .int .i64 (i : Int))] ∧ (∀ r ∈ rs.take i, tblRow (tblM rs) r) ∧ Ext w w') _ ⟨0, rfl, Nat.zero_le _, ⟨rfl, rfl, trivial⟩, by simp, Ext.refl w⟩ ?_
    · rintro m E w2 ⟨i, rfl, hki, hagi, hall, hE2⟩
      refine CW.re _ hagi rfl ?_
      clear hagi
      refine CW.seq ?_
      refine CW.seq ?_
      refine CW.region ?_
      refine RL.y rfl (y_mov (v := .int _ _) rfl) ?_
      refine RL.y rfl (y_mov (by conv => lhs; whnf)) ?_
      refine RL.y rfl (y_len sT22 hc.1 hc.2.1 rfl) ?_
      refine RL.y rfl (y_lt rfl rfl) ?_
      refine RL.nil ?_
      refine Fin.next ?_
      refine CW.cond rfl rfl (fun hci => ?_) (fun hci => ?_)
      · with_reducible first | (replace hci := deNF hci) | (replace hci := of_decide_eq_true hci) | (replace hci := of_decide_eq_false hci) | (replace hci := deNT hci) | (replace hci := deNN hci) | (replace hci := bnT hci) | (replace hci := bnF hci) | skip
        have hlti : i < rs.length := by omega
        have hri := (hc.row hlti).ext hE2
        have hl0 := SI.le (hc.row h0)
        have hli := SI.le (hc.row hlti)
        have hr0 : (rs[0]).length = tblM rs := by rw [← hm, getD_lt h0]
        refine CW.skip ?_
        refine Fin.next ?_
        refine CW.seq ?_
        refine CW.block ?_
        refine CW.seq ?_
        refine CW.seq ?_
        refine CW.quietE mixed (by kernel_rfl) ?_
        refine QL.y rfl (y_mov (by conv => lhs; whnf)) ?_
        refine QL.y rfl (y_mov (v := .int _ _) rfl) ?_
        refine QL.y rfl (y_ixa sT22 (fun _ hC => (hc.1.ext hE2).ext hC) (k := i) (hc.lt hlti) rfl rfl) ?_
        refine QL.y rfl (y_load sc34 (fun _ hC => (hc.1.ext hE2).ext hC) (hc.at hlti) rfl) ?_
        refine QL.y rfl (y_len sT34 hri (ints_len _) rfl) ?_
        refine QL.y rfl (y_mov (by conv => lhs; whnf)) ?_
        refine QL.y rfl (y_ixa sT22 (fun _ hC => (hc.1.ext hE2).ext hC) (k := 0) (hc.lt h0) rfl rfl) ?_
        refine QL.y rfl (y_load sc34 (fun _ hC => (hc.1.ext hE2).ext hC) (hc.at h0) rfl) ?_
        refine QL.y rfl (y_len sT34 (hc.row h0) (ints_len _) rfl) ?_
        refine QL.y rfl (y_ne rfl rfl) ?_
        refine QL.y rfl (y_mov (v := .bool _) rfl) ?_
        refine QL.split (t := 25) rfl rfl (fun hb => ?_) (fun hb => ?_)
        · with_reducible first | (replace hb := deNF hb) | (replace hb := of_decide_eq_true hb) | (replace hb := of_decide_eq_false hb) | (replace hb := deNT hb) | (replace hb := deNN hb) | (replace hb := bnT hb) | (replace hb := bnF hb) | skip
          refine QL.pass (t := 25) rfl rfl rfl rfl ?_
          refine QL.pass (t := 25) rfl rfl rfl rfl ?_
          refine QL.pass (t := 25) rfl rfl rfl rfl ?_
          refine QL.pass (t := 25) rfl rfl rfl rfl ?_
          refine QL.pass (t := 25) rfl rfl rfl rfl ?_
          refine QL.pass (t := 25) rfl rfl rfl rfl ?_
          refine QL.pass (t := 25) rfl rfl rfl rfl ?_
          refine QL.y rfl (y_pickT (v := .bool _) rfl rfl) ?_
          refine QL.nil (fun w3 hE3 => ?_)
          refine Fin.next ?_
          refine CW.condT rfl rfl ?_
          refine CW.seq ?_
          refine CW.region ?_
          refine RL.y rfl (y_asg rfl) ?_
          refine RL.nil ?_
          refine Fin.next ?_
          refine CW.ret ?_
          refine Fin.thenRet ?_
          refine Fin.blockRet ?_
          refine Fin.thenRet ?_
          refine Fin.thenRet ?_
          refine Fin.blockRet ?_
          refine Fin.thenRet ?_
          refine Fin.ret1 rfl (by conv => lhs; whnf) ?_
          exact ⟨_, rfl, bF (fun h => hb (by have := (h.2 _ (List.getElem_mem hlti)).1; omega)), hE2.trans hE3⟩
        · with_reducible first | (replace hb := deNF hb) | (replace hb := of_decide_eq_true hb) | (replace hb := of_decide_eq_false hb) | (replace hb := deNT hb) | (replace hb := deNN hb) | (replace hb := bnT hb) | (replace hb := bnF hb) | skip
          refine QL.take (t := 25) rfl rfl rfl ?_
          refine QL.y rfl (y_mov (by conv => lhs; whnf)) ?_
          refine QL.take (t := 25) rfl rfl rfl ?_
          refine QL.y rfl (y_mov (v := .int _ _) rfl) ?_
          refine QL.take (t := 25) rfl rfl rfl ?_
          refine QL.y rfl (y_ixa sT22 (fun _ hC => (hc.1.ext hE2).ext hC) (k := i) (hc.lt hlti) rfl rfl) ?_
          refine QL.take (t := 25) rfl rfl rfl ?_
          refine QL.y rfl (y_load sc34 (fun _ hC => (hc.1.ext hE2).ext hC) (hc.at hlti) rfl) ?_
          refine QL.take (t := 25) rfl rfl rfl ?_
          refine QL.y rfl (y_len sT34 hri (ints_len _) rfl) ?_
          refine QL.take (t := 25) rfl rfl rfl ?_
          refine QL.call rfl (fun _ hC => qs hC l01In_any) ?_
          refine QL.take (t := 25) rfl rfl rfl ?_
          refine QL.y rfl (y_not rfl) ?_
          refine QL.y rfl (y_pickF (v := .bool _) rfl rfl) ?_
          refine QL.nil (fun w3 hE3 => ?_)
          refine Fin.next ?_
          refine CW.cond rfl rfl (fun hb2 => ?_) (fun hb2 => ?_)
          · with_reducible first | (replace hb2 := deNF hb2) | (replace hb2 := of_decide_eq_true hb2) | (replace hb2 := of_decide_eq_false hb2) | (replace hb2 := deNT hb2) | (replace hb2 := deNN hb2) | (replace hb2 := bnT hb2) | (replace hb2 := bnF hb2) | skip
            refine CW.seq ?_
            refine CW.region ?_
            refine RL.y rfl (y_asg rfl) ?_
            refine RL.nil ?_
            refine Fin.next ?_
            refine CW.ret ?_
            refine Fin.thenRet ?_
            refine Fin.blockRet ?_
            refine Fin.thenRet ?_
            refine Fin.thenRet ?_
            refine Fin.blockRet ?_
            refine Fin.thenRet ?_
            refine Fin.ret1 rfl (by conv => lhs; whnf) ?_
            exact ⟨_, rfl, bF (fun h => hb2 (by have := (h.2 _ (List.getElem_mem hlti)).2.1; omega)), hE2.trans hE3⟩
          · with_reducible first | (replace hb2 := deNF hb2) | (replace hb2 := of_decide_eq_true hb2) | (replace hb2 := of_decide_eq_false hb2) | (replace hb2 := deNT hb2) | (replace hb2 := deNN hb2) | (replace hb2 := bnT hb2) | (replace hb2 := bnF hb2) | skip
            have hE23 := hE2.trans hE3
            refine CW.skip ?_
            refine Fin.next ?_
            refine CW.seq ?_
            refine CW.region ?_
            refine RL.y rfl (y_asg rfl) ?_
            refine RL.nil ?_
            refine Fin.next ?_
            refine CW.block ?_
            refine CW.loop (fun m E w' => ∃ k : Nat, m = rs[i].length - k ∧ k ≤ rs[i].length ∧ agrees E [(0, v), (3, .int .i64 (i : Int)), (4, .int .i64 (k : Int))] ∧ (∀ x ∈ rs[i].take k, 0 ≤ x ∧ x ≤ 1) ∧ w3 = w') _ ⟨0, rfl, Nat.zero_le _, ⟨rfl, rfl, rfl, trivial⟩, by simp, rfl⟩ ?_
            · rintro m E w4 ⟨k, rfl, hkk, hagk, hbits, rfl⟩
              refine CW.re _ hagk rfl ?_
              clear hagk
              refine CW.seq ?_
              refine CW.seq ?_
              refine CW.region ?_
              refine RL.y rfl (y_mov (v := .int _ _) rfl) ?_
              refine RL.y rfl (y_mov (by conv => lhs; whnf)) ?_
              refine RL.y rfl (y_mov (v := .int _ _) rfl) ?_
              refine RL.y rfl (y_ixa sT22 (eqw (hc.1.ext hE23)) (k := i) (hc.lt hlti) rfl rfl) ?_
              refine RL.y rfl (y_load sc34 (eqw (hc.1.ext hE23)) (hc.at hlti) rfl) ?_
              refine RL.y rfl (y_len sT34 hri (ints_len _) rfl) ?_
              refine RL.y rfl (y_lt rfl rfl) ?_
              refine RL.nil ?_
              refine Fin.next ?_
              refine CW.cond rfl rfl (fun hck => ?_) (fun hck => ?_)
              · with_reducible first | (replace hck := deNF hck) | (replace hck := of_decide_eq_true hck) | (replace hck := of_decide_eq_false hck) | (replace hck := deNT hck) | (replace hck := deNN hck) | (replace hck := bnT hck) | (replace hck := bnF hck) | skip
                have hltk : k < rs[i].length := by omega
                refine CW.skip ?_
                refine Fin.next ?_
                refine CW.seq ?_
                refine CW.block ?_
                refine CW.seq ?_
                refine CW.region ?_
                refine RL.y rfl (y_mov (by conv => lhs; whnf)) ?_
                refine RL.y rfl (y_mov (v := .int _ _) rfl) ?_
                refine RL.y rfl (y_ixa sT22 (eqw (hc.1.ext hE23)) (k := i) (hc.lt hlti) rfl rfl) ?_
                refine RL.y rfl (y_load sc34 (eqw (hc.1.ext hE23)) (hc.at hlti) rfl) ?_
                refine RL.y rfl (y_mov (v := .int _ _) rfl) ?_
                refine RL.y rfl (y_ixa sT34 (eqw ((hc.row hlti).ext hE23)) (k := k) (ints_lt hltk) rfl rfl) ?_
                refine RL.y rfl (y_load sc2 (eqw ((hc.row hlti).ext hE23)) (ints_at hltk) rfl) ?_
                refine RL.call rfl (l01In_any) ?_
                rintro r w5 ⟨rfl, rfl⟩
                refine RL.y rfl (y_not rfl) ?_
                refine RL.nil ?_
                refine Fin.next ?_
                refine CW.cond rfl rfl (fun hb3 => ?_) (fun hb3 => ?_)
                · with_reducible first | (replace hb3 := deNF hb3) | (replace hb3 := of_decide_eq_true hb3) | (replace hb3 := of_decide_eq_false hb3) | (replace hb3 := deNT hb3) | (replace hb3 := deNN hb3) | (replace hb3 := bnT hb3) | (replace hb3 := bnF hb3) | skip
                  refine CW.seq ?_
                  refine CW.region ?_
                  refine RL.y rfl (y_asg rfl) ?_
                  refine RL.nil ?_
                  refine Fin.next ?_
                  refine CW.ret ?_
                  refine Fin.blockRet ?_
                  refine Fin.thenRet ?_
                  refine Fin.thenRet ?_
                  refine Fin.blockRet ?_
                  refine Fin.blockRet ?_
                  refine Fin.thenRet ?_
                  refine Fin.thenRet ?_
                  refine Fin.blockRet ?_
                  refine Fin.thenRet ?_
                  refine Fin.ret1 rfl (by conv => lhs; whnf) ?_
                  exact ⟨_, rfl, bF (fun h => hb3 ((h.2 _ (List.getElem_mem hlti)).2.2 _ (List.getElem_mem hltk))), hE23⟩
                · with_reducible first | (replace hb3 := deNF hb3) | (replace hb3 := of_decide_eq_true hb3) | (replace hb3 := of_decide_eq_false hb3) | (replace hb3 := deNT hb3) | (replace hb3 := deNN hb3) | (replace hb3 := bnT hb3) | (replace hb3 := bnF hb3) | skip
                  refine CW.skip ?_
                  refine Fin.blockNormal ?_
                  refine Fin.next ?_
                  refine CW.region ?_
                  refine RL.y rfl (y_mov (v := .int _ _) rfl) ?_
                  refine RL.y rfl (y_add rfl rfl (IntWalk.i64_in _ (by omega))) ?_
                  refine RL.y rfl (y_asg (v := .int _ _) rfl) ?_
                  refine RL.nil ?_
                  refine Fin.le ?_
                  exact ⟨rs[i].length - (k + 1), by omega, k + 1, rfl, hltk, ⟨rfl, rfl, rfl, trivial⟩, all_snoc hltk hbits hb3, rfl⟩
              · with_reducible first | (replace hck := deNF hck) | (replace hck := of_decide_eq_true hck) | (replace hck := of_decide_eq_false hck) | (replace hck := deNT hck) | (replace hck := deNN hck) | (replace hck := bnT hck) | (replace hck := bnF hck) | skip
                obtain rfl : rs[i].length = k := by omega
                refine CW.exit ?_
                refine Fin.thenExit ?_
                refine Fin.thenExit ?_
                refine Fin.blockHit ?_
                refine Fin.blockNormal ?_
                refine Fin.next ?_
                refine CW.region ?_
                refine RL.y rfl (y_mov (v := .int _ _) rfl) ?_
                refine RL.y rfl (y_add rfl rfl (IntWalk.i64_in _ (by omega))) ?_
                refine RL.y rfl (y_asg (v := .int _ _) rfl) ?_
                refine RL.nil ?_
                refine Fin.le ?_
                exact ⟨rs.length - (i + 1), by omega, i + 1, rfl, hlti, ⟨rfl, rfl, trivial⟩, all_snoc hlti hall ⟨by omega, by omega, by rw [List.take_length] at hbits; exact hbits⟩, hE23⟩
      · with_reducible first | (replace hci := deNF hci) | (replace hci := of_decide_eq_true hci) | (replace hci := of_decide_eq_false hci) | (replace hci := deNT hci) | (replace hci := deNN hci) | (replace hci := bnT hci) | (replace hci := bnF hci) | skip
        obtain rfl : rs.length = i := by omega
        refine CW.exit ?_
        refine Fin.thenExit ?_
        refine Fin.thenExit ?_
        refine Fin.blockHit ?_
        refine Fin.next ?_
        refine CW.seq ?_
        refine CW.region ?_
        refine RL.y rfl (y_asg rfl) ?_
        refine RL.nil ?_
        refine Fin.next ?_
        refine CW.ret ?_
        refine Fin.ret1 rfl (by conv => lhs; whnf) ?_
        exact ⟨_, rfl, bT ⟨by omega, by simpa using hall⟩, hE2⟩

theorem implIsTable_any {w : World} {v : Value} {rs : List (List Int)} (hv : RdSS w v rs) :
    Does Try.prog 11 #[v] w (fun r w' => r = .bool (decide (tbl rs)) ∧ w = w') := by
  obtain ⟨cs, hc⟩ := hv
  have hxl := hc.le
  have hm : (rs.getD 0 []).length = tblM rs := rfl
  refine enter Try.func11 rfl 42 Try.ntmps11 rfl (by kernel_rfl) ?_
  refine CW.seq ?_
  refine CW.region ?_
  refine RL.y rfl (y_asg rfl) ?_
  refine RL.nil ?_
  refine Fin.next ?_
  refine CW.seq ?_
  refine CW.seq ?_
  refine CW.region ?_
  refine RL.y rfl (y_mov (by conv => lhs; whnf)) ?_
  refine RL.y rfl (y_len sT22 hc.1 hc.2.1 rfl) ?_
  refine RL.y rfl (y_mov rfl) ?_
  refine RL.nil ?_
  refine Fin.next ?_
  refine CW.block ?_
  refine CW.loop (fun m E w' => ∃ i : Nat, m = rs.length - i ∧ i ≤ rs.length ∧ agrees E [(0, v), (5, v), (6, .int .i64 rs.length), (7, .int .i64 (i : Int))] ∧ (∀ r ∈ rs.take i, tblRow (tblM rs) r) ∧ w = w') _ ⟨0, rfl, Nat.zero_le _, ⟨rfl, rfl, rfl, rfl, trivial⟩, by simp, rfl⟩ ?_
  · rintro m E w2 ⟨i, rfl, hki, hagi, hall, rfl⟩
    refine CW.re _ hagi rfl ?_
    clear hagi
    refine CW.seq ?_
    refine CW.region ?_
    refine RL.y rfl (y_lt rfl rfl) ?_
    refine RL.nil ?_
    refine Fin.next ?_
    refine CW.seq ?_
    refine CW.cond rfl rfl (fun hci => ?_) (fun hci => ?_)
    · with_reducible first | (replace hci := deNF hci) | (replace hci := of_decide_eq_true hci) | (replace hci := of_decide_eq_false hci) | (replace hci := deNT hci) | (replace hci := deNN hci) | (replace hci := bnT hci) | (replace hci := bnF hci) | skip
      have hlti : i < rs.length := by omega
      have h0 : 0 < rs.length := by omega
      have hri := hc.row hlti
      have hl0 := SI.le (hc.row h0)
      have hli := SI.le (hc.row hlti)
      have hr0 : (rs[0]).length = tblM rs := by rw [← hm, getD_lt h0]
      refine CW.skip ?_
      refine Fin.next ?_
      refine CW.seq ?_
      refine CW.block ?_
      refine CW.seq ?_
      refine CW.region ?_
      refine RL.y rfl (y_ixa sT22 (eqw (hc.1)) (k := i) (hc.lt hlti) rfl rfl) ?_
      refine RL.y rfl (y_load sc34 (eqw (hc.1)) (hc.at hlti) rfl) ?_
      refine RL.y rfl (y_asg (by conv => lhs; whnf)) ?_
      refine RL.nil ?_
      refine Fin.next ?_
      refine CW.seq ?_
      refine CW.region ?_
      refine RL.y rfl (y_mov (by conv => lhs; whnf)) ?_
      refine RL.y rfl (y_len sT34 hri (ints_len _) rfl) ?_
      refine RL.y rfl (y_mov (by conv => lhs; whnf)) ?_
      refine RL.y rfl (y_ixa sT22 (eqw (hc.1)) (k := 0) (hc.lt h0) rfl rfl) ?_
      refine RL.y rfl (y_load sc34 (eqw (hc.1)) (hc.at h0) rfl) ?_
      refine RL.y rfl (y_len sT34 (hc.row h0) (ints_len _) rfl) ?_
      refine RL.y rfl (y_ne rfl rfl) ?_
      refine RL.y rfl (y_mov (v := .bool _) rfl) ?_
      refine RL.split (t := 18) rfl rfl (fun hb => ?_) (fun hb => ?_)
      · with_reducible first | (replace hb := deNF hb) | (replace hb := of_decide_eq_true hb) | (replace hb := of_decide_eq_false hb) | (replace hb := deNT hb) | (replace hb := deNN hb) | (replace hb := bnT hb) | (replace hb := bnF hb) | skip
        refine RL.pass (t := 18) rfl rfl rfl rfl ?_
        refine RL.pass (t := 18) rfl rfl rfl rfl ?_
        refine RL.pass (t := 18) rfl rfl rfl rfl ?_
        refine RL.y rfl (y_pickT (v := .bool _) rfl rfl) ?_
        refine RL.y rfl (y_mov (v := .bool _) rfl) ?_
        refine RL.pass (t := 23) rfl rfl rfl rfl ?_
        refine RL.pass (t := 23) rfl rfl rfl rfl ?_
        refine RL.pass (t := 23) rfl rfl rfl rfl ?_
        refine RL.y rfl (y_pickT (v := .bool _) rfl rfl) ?_
        refine RL.y rfl (y_mov (v := .bool _) rfl) ?_
        refine RL.pass (t := 28) rfl rfl rfl rfl ?_
        refine RL.pass (t := 28) rfl rfl rfl rfl ?_
        refine RL.pass (t := 28) rfl rfl rfl rfl ?_
        refine RL.y rfl (y_pickT (v := .bool _) rfl rfl) ?_
        refine RL.nil ?_
        refine Fin.next ?_
        refine CW.condT rfl rfl ?_
        refine CW.seq ?_
        refine CW.region ?_
        refine RL.y rfl (y_asg rfl) ?_
        refine RL.nil ?_
        refine Fin.next ?_
        refine CW.ret ?_
        refine Fin.blockRet ?_
        refine Fin.thenRet ?_
        refine Fin.thenRet ?_
        refine Fin.blockRet ?_
        refine Fin.thenRet ?_
        refine Fin.ret1 rfl (by conv => lhs; whnf) ?_
        exact ⟨_, rfl, bF (fun h => hb (by have := (h.2 _ (List.getElem_mem hlti)).1; omega)), rfl⟩
      · with_reducible first | (replace hb := deNF hb) | (replace hb := of_decide_eq_true hb) | (replace hb := of_decide_eq_false hb) | (replace hb := deNT hb) | (replace hb := deNN hb) | (replace hb := bnT hb) | (replace hb := bnF hb) | skip
        refine RL.take (t := 18) rfl rfl rfl ?_
        refine RL.y rfl (y_mov (by conv => lhs; whnf)) ?_
        refine RL.take (t := 18) rfl rfl rfl ?_
        refine RL.y rfl (y_len sT34 hri (ints_len _) rfl) ?_
        refine RL.take (t := 18) rfl rfl rfl ?_
        refine RL.y rfl (y_lt rfl rfl) ?_
        refine RL.y rfl (y_pickF (v := .bool _) rfl rfl) ?_
        refine RL.y rfl (y_mov (v := .bool _) rfl) ?_
        refine RL.split (t := 23) rfl rfl (fun hb1 => ?_) (fun hb1 => ?_)
        · with_reducible first | (replace hb1 := deNF hb1) | (replace hb1 := of_decide_eq_true hb1) | (replace hb1 := of_decide_eq_false hb1) | (replace hb1 := deNT hb1) | (replace hb1 := deNN hb1) | (replace hb1 := bnT hb1) | (replace hb1 := bnF hb1) | skip
          refine RL.pass (t := 23) rfl rfl rfl rfl ?_
          refine RL.pass (t := 23) rfl rfl rfl rfl ?_
          refine RL.pass (t := 23) rfl rfl rfl rfl ?_
          refine RL.y rfl (y_pickT (v := .bool _) rfl rfl) ?_
          refine RL.y rfl (y_mov (v := .bool _) rfl) ?_
          refine RL.pass (t := 28) rfl rfl rfl rfl ?_
          refine RL.pass (t := 28) rfl rfl rfl rfl ?_
          refine RL.pass (t := 28) rfl rfl rfl rfl ?_
          refine RL.y rfl (y_pickT (v := .bool _) rfl rfl) ?_
          refine RL.nil ?_
          refine Fin.next ?_
          refine CW.condT rfl rfl ?_
          refine CW.seq ?_
          refine CW.region ?_
          refine RL.y rfl (y_asg rfl) ?_
          refine RL.nil ?_
          refine Fin.next ?_
          refine CW.ret ?_
          refine Fin.blockRet ?_
          refine Fin.thenRet ?_
          refine Fin.thenRet ?_
          refine Fin.blockRet ?_
          refine Fin.thenRet ?_
          refine Fin.ret1 rfl (by conv => lhs; whnf) ?_
          exact ⟨_, rfl, bF (fun h => by have := (h.2 _ (List.getElem_mem hlti)).2.1; omega), rfl⟩
        · with_reducible first | (replace hb1 := deNF hb1) | (replace hb1 := of_decide_eq_true hb1) | (replace hb1 := of_decide_eq_false hb1) | (replace hb1 := deNT hb1) | (replace hb1 := deNN hb1) | (replace hb1 := bnT hb1) | (replace hb1 := bnF hb1) | skip
          refine RL.take (t := 23) rfl rfl rfl ?_
          refine RL.y rfl (y_mov (by conv => lhs; whnf)) ?_
          refine RL.take (t := 23) rfl rfl rfl ?_
          refine RL.y rfl (y_len sT34 hri (ints_len _) rfl) ?_
          refine RL.take (t := 23) rfl rfl rfl ?_
          refine RL.y rfl (y_gt rfl rfl) ?_
          refine RL.y rfl (y_pickF (v := .bool _) rfl rfl) ?_
          refine RL.y rfl (y_mov (v := .bool _) rfl) ?_
          refine RL.split (t := 28) rfl rfl (fun hb2 => ?_) (fun hb2 => ?_)
          · with_reducible first | (replace hb2 := deNF hb2) | (replace hb2 := of_decide_eq_true hb2) | (replace hb2 := of_decide_eq_false hb2) | (replace hb2 := deNT hb2) | (replace hb2 := deNN hb2) | (replace hb2 := bnT hb2) | (replace hb2 := bnF hb2) | skip
            refine RL.pass (t := 28) rfl rfl rfl rfl ?_
            refine RL.pass (t := 28) rfl rfl rfl rfl ?_
            refine RL.pass (t := 28) rfl rfl rfl rfl ?_
            refine RL.y rfl (y_pickT (v := .bool _) rfl rfl) ?_
            refine RL.nil ?_
            refine Fin.next ?_
            refine CW.condT rfl rfl ?_
            refine CW.seq ?_
            refine CW.region ?_
            refine RL.y rfl (y_asg rfl) ?_
            refine RL.nil ?_
            refine Fin.next ?_
            refine CW.ret ?_
            refine Fin.blockRet ?_
            refine Fin.thenRet ?_
            refine Fin.thenRet ?_
            refine Fin.blockRet ?_
            refine Fin.thenRet ?_
            refine Fin.ret1 rfl (by conv => lhs; whnf) ?_
            exact ⟨_, rfl, bF (fun h => by have := (h.2 _ (List.getElem_mem hlti)).2.1; omega), rfl⟩
          · with_reducible first | (replace hb2 := deNF hb2) | (replace hb2 := of_decide_eq_true hb2) | (replace hb2 := of_decide_eq_false hb2) | (replace hb2 := deNT hb2) | (replace hb2 := deNN hb2) | (replace hb2 := bnT hb2) | (replace hb2 := bnF hb2) | skip
            refine RL.take (t := 28) rfl rfl rfl ?_
            refine RL.y rfl (y_mov (by conv => lhs; whnf)) ?_
            refine RL.take (t := 28) rfl rfl rfl ?_
            refine RL.call rfl (allWithin_any hri) ?_
            rintro r w3 ⟨rfl, rfl⟩
            refine RL.take (t := 28) rfl rfl rfl ?_
            refine RL.y rfl (y_not rfl) ?_
            refine RL.y rfl (y_pickF (v := .bool _) rfl rfl) ?_
            refine RL.nil ?_
            refine Fin.next ?_
            refine CW.cond rfl rfl (fun hb3 => ?_) (fun hb3 => ?_)
            · with_reducible first | (replace hb3 := deNF hb3) | (replace hb3 := of_decide_eq_true hb3) | (replace hb3 := of_decide_eq_false hb3) | (replace hb3 := deNT hb3) | (replace hb3 := deNN hb3) | (replace hb3 := bnT hb3) | (replace hb3 := bnF hb3) | skip
              refine CW.seq ?_
              refine CW.region ?_
              refine RL.y rfl (y_asg rfl) ?_
              refine RL.nil ?_
              refine Fin.next ?_
              refine CW.ret ?_
              refine Fin.blockRet ?_
              refine Fin.thenRet ?_
              refine Fin.thenRet ?_
              refine Fin.blockRet ?_
              refine Fin.thenRet ?_
              refine Fin.ret1 rfl (by conv => lhs; whnf) ?_
              exact ⟨_, rfl, bF (fun h => hb3 (h.2 _ (List.getElem_mem hlti)).2.2), rfl⟩
            · with_reducible first | (replace hb3 := deNF hb3) | (replace hb3 := of_decide_eq_true hb3) | (replace hb3 := of_decide_eq_false hb3) | (replace hb3 := deNT hb3) | (replace hb3 := deNN hb3) | (replace hb3 := bnT hb3) | (replace hb3 := bnF hb3) | skip
              refine CW.skip ?_
              refine Fin.blockNormal ?_
              refine Fin.next ?_
              refine CW.region ?_
              refine RL.y rfl (y_add rfl rfl (IntWalk.i64_in _ (by omega))) ?_
              refine RL.y rfl (y_mov (v := .int _ _) rfl) ?_
              refine RL.nil ?_
              refine Fin.le ?_
              exact ⟨rs.length - (i + 1), by omega, i + 1, rfl, hlti, ⟨rfl, rfl, rfl, rfl, trivial⟩, all_snoc hlti hall ⟨by omega, by omega, hb3⟩, rfl⟩
    · with_reducible first | (replace hci := deNF hci) | (replace hci := of_decide_eq_true hci) | (replace hci := of_decide_eq_false hci) | (replace hci := deNT hci) | (replace hci := deNN hci) | (replace hci := bnT hci) | (replace hci := bnF hci) | skip
      obtain rfl : rs.length = i := by omega
      rw [List.take_length] at hall
      refine CW.exit ?_
      refine Fin.thenExit ?_
      refine Fin.thenExit ?_
      refine Fin.blockHit ?_
      refine Fin.next ?_
      refine CW.seq ?_
      refine CW.region ?_
      refine RL.y rfl (y_mov (by conv => lhs; whnf)) ?_
      refine RL.y rfl (y_len sT22 hc.1 hc.2.1 rfl) ?_
      refine RL.y rfl (y_ge rfl rfl) ?_
      refine RL.y rfl (y_mov (v := .bool _) rfl) ?_
      refine RL.split (t := 37) rfl rfl (fun hb => ?_) (fun hb => ?_)
      · with_reducible first | (replace hb := deNF hb) | (replace hb := of_decide_eq_true hb) | (replace hb := of_decide_eq_false hb) | (replace hb := deNT hb) | (replace hb := deNN hb) | (replace hb := bnT hb) | (replace hb := bnF hb) | skip
        refine RL.take (t := 37) rfl rfl rfl ?_
        refine RL.y rfl (y_mov (by conv => lhs; whnf)) ?_
        refine RL.take (t := 37) rfl rfl rfl ?_
        refine RL.y rfl (y_len sT22 hc.1 hc.2.1 rfl) ?_
        refine RL.take (t := 37) rfl rfl rfl ?_
        refine RL.y rfl (y_le rfl rfl) ?_
        refine RL.y rfl (y_pickT (v := .bool _) rfl rfl) ?_
        refine RL.y rfl (y_asg (v := .bool _) rfl) ?_
        refine RL.nil ?_
        refine Fin.next ?_
        refine CW.ret ?_
        refine Fin.ret1 rfl (by conv => lhs; whnf) ?_
        exact ⟨_, rfl, bD ⟨fun h => ⟨by omega, hall⟩, fun h => by have := h.1; omega⟩, rfl⟩
      · with_reducible first | (replace hb := deNF hb) | (replace hb := of_decide_eq_true hb) | (replace hb := of_decide_eq_false hb) | (replace hb := deNT hb) | (replace hb := deNN hb) | (replace hb := bnT hb) | (replace hb := bnF hb) | skip
        refine RL.pass (t := 37) rfl rfl rfl rfl ?_
        refine RL.pass (t := 37) rfl rfl rfl rfl ?_
        refine RL.pass (t := 37) rfl rfl rfl rfl ?_
        refine RL.y rfl (y_pickF (v := .bool _) rfl rfl) ?_
        refine RL.y rfl (y_asg (v := .bool _) rfl) ?_
        refine RL.nil ?_
        refine Fin.next ?_
        refine CW.ret ?_
        refine Fin.ret1 rfl (by conv => lhs; whnf) ?_
        exact ⟨_, rfl, bF (fun h => hb (by have := h.1; omega)), rfl⟩

theorem l11In_any {w : World} {u v : Value} {a b : List Int} (hu : SI w u a) (hv : SI w v b) (hl : a.length = b.length) :
    Does Try.prog 34 #[u, v] w (fun r w' => r = .bool (decide (inn a b)) ∧ Ext w w') := by
  have hxl := SI.le hu
  refine enter Try.func34 rfl 21 Try.ntmps34 rfl (by kernel_rfl) ?_
  refine CW.seq ?_
  refine CW.region ?_
  refine RL.y rfl (y_asg rfl) ?_
  refine RL.nil ?_
  refine Fin.next ?_
  refine CW.seq ?_
  refine CW.seq ?_
  refine CW.region ?_
  refine RL.y rfl (y_asg rfl) ?_
  refine RL.nil ?_
  refine Fin.next ?_
  refine CW.block ?_
  refine CW.loop (fun m E w' => ∃ k : Nat, m = a.length - k ∧ k ≤ a.length ∧ agrees E [(0, u), (1, v), (5, .int .i64 (k : Int))] ∧ innTo a b k ∧ Ext w w') _ ⟨0, rfl, Nat.zero_le _, ⟨rfl, rfl, rfl, trivial⟩, (fun j hj => absurd hj (Nat.not_lt_zero j)), Ext.refl w⟩ ?_
  · rintro m E w2 ⟨k, rfl, hkk, hagk, hin, hE2⟩
    refine CW.re _ hagk rfl ?_
    clear hagk
    refine CW.seq ?_
    refine CW.seq ?_
    refine CW.region ?_
    refine RL.y rfl (y_mov (v := .int _ _) rfl) ?_
    refine RL.y rfl (y_mov (by conv => lhs; whnf)) ?_
    refine RL.y rfl (y_len sT34 hu (ints_len _) rfl) ?_
    refine RL.y rfl (y_lt rfl rfl) ?_
    refine RL.nil ?_
    refine Fin.next ?_
    refine CW.cond rfl rfl (fun hck => ?_) (fun hck => ?_)
    · with_reducible first | (replace hck := deNF hck) | (replace hck := of_decide_eq_true hck) | (replace hck := of_decide_eq_false hck) | (replace hck := deNT hck) | (replace hck := deNN hck) | (replace hck := bnT hck) | (replace hck := bnF hck) | skip
      have hltk : k < a.length := by omega
      have hlt' : k < b.length := by omega
      refine CW.skip ?_
      refine Fin.next ?_
      refine CW.seq ?_
      refine CW.block ?_
      refine CW.seq ?_
      refine CW.quietE mixed (by kernel_rfl) ?_
      refine QL.y rfl (y_mov (by conv => lhs; whnf)) ?_
      refine QL.y rfl (y_mov (v := .int _ _) rfl) ?_
      refine QL.y rfl (y_ixa sT34 (fun _ hC => (hu.ext hE2).ext hC) (k := k) (ints_lt hltk) rfl rfl) ?_
      refine QL.y rfl (y_load sc2 (fun _ hC => (hu.ext hE2).ext hC) (ints_at hltk) rfl) ?_
      refine QL.y rfl (y_mov (by conv => lhs; whnf)) ?_
      refine QL.y rfl (y_mov (v := .int _ _) rfl) ?_
      refine QL.y rfl (y_ixa sT34 (fun _ hC => (hv.ext hE2).ext hC) (k := k) (ints_lt hlt') rfl rfl) ?_
      refine QL.y rfl (y_load sc2 (fun _ hC => (hv.ext hE2).ext hC) (ints_at hlt') rfl) ?_
      refine QL.y rfl (y_gt rfl rfl) ?_
      refine QL.nil (fun w3 hE3 => ?_)
      refine Fin.next ?_
      refine CW.cond rfl rfl (fun hc3 => ?_) (fun hc3 => ?_)
      · with_reducible first | (replace hc3 := deNF hc3) | (replace hc3 := of_decide_eq_true hc3) | (replace hc3 := of_decide_eq_false hc3) | (replace hc3 := deNT hc3) | (replace hc3 := deNN hc3) | (replace hc3 := bnT hc3) | (replace hc3 := bnF hc3) | skip
        refine CW.seq ?_
        refine CW.region ?_
        refine RL.y rfl (y_asg rfl) ?_
        refine RL.nil ?_
        refine Fin.next ?_
        refine CW.ret ?_
        refine Fin.blockRet ?_
        refine Fin.thenRet ?_
        refine Fin.thenRet ?_
        refine Fin.blockRet ?_
        refine Fin.thenRet ?_
        refine Fin.ret1 rfl (by conv => lhs; whnf) ?_
        exact ⟨_, rfl, bF (fun h => by have := h k hltk; rw [getD_lt hltk, getD_lt hlt'] at this; omega), hE2.trans hE3⟩
      · with_reducible first | (replace hc3 := deNF hc3) | (replace hc3 := of_decide_eq_true hc3) | (replace hc3 := of_decide_eq_false hc3) | (replace hc3 := deNT hc3) | (replace hc3 := deNN hc3) | (replace hc3 := bnT hc3) | (replace hc3 := bnF hc3) | skip
        refine CW.skip ?_
        refine Fin.blockNormal ?_
        refine Fin.next ?_
        refine CW.region ?_
        refine RL.y rfl (y_mov (v := .int _ _) rfl) ?_
        refine RL.y rfl (y_add rfl rfl (IntWalk.i64_in _ (by omega))) ?_
        refine RL.y rfl (y_asg (v := .int _ _) rfl) ?_
        refine RL.nil ?_
        refine Fin.le ?_
        exact ⟨a.length - (k + 1), by omega, k + 1, rfl, hltk, ⟨rfl, rfl, rfl, trivial⟩, innTo_succ hin (by rw [getD_lt hltk, getD_lt hlt']; omega), hE2.trans hE3⟩
    · with_reducible first | (replace hck := deNF hck) | (replace hck := of_decide_eq_true hck) | (replace hck := of_decide_eq_false hck) | (replace hck := deNT hck) | (replace hck := deNN hck) | (replace hck := bnT hck) | (replace hck := bnF hck) | skip
      obtain rfl : a.length = k := by omega
      refine CW.exit ?_
      refine Fin.thenExit ?_
      refine Fin.thenExit ?_
      refine Fin.blockHit ?_
      refine Fin.next ?_
      refine CW.seq ?_
      refine CW.region ?_
      refine RL.y rfl (y_asg rfl) ?_
      refine RL.nil ?_
      refine Fin.next ?_
      refine CW.ret ?_
      refine Fin.ret1 rfl (by conv => lhs; whnf) ?_
      exact ⟨_, rfl, bT hin, hE2⟩

theorem l11Common_any {w : World} {u v : Value} {a b : List Int} (hu : SI w u a) (hv : SI w v b) (hl : a.length = b.length) (h12 : a.length ≤ 12) :
    Does Try.prog 35 #[u, v] w (fun v' w' => OV w' w.heap.size 2 v' (ints (common a b)) ∧ Ext w w') := by
  refine enter Try.func35 rfl 31 Try.ntmps35 rfl (by kernel_rfl) ?_
  refine CW.seq ?_
  refine CW.region ?_
  refine RL.y rfl (y_asg rfl) ?_
  refine RL.nil ?_
  refine Fin.next ?_
  refine CW.seq ?_
  refine CW.region ?_
  refine RL.lit0 rfl sT34 (fun vo w1 ho1 hE1 hb1 => ?_)
  refine RL.y rfl (y_asg (by conv => lhs; whnf)) ?_
  refine RL.nil ?_
  refine Fin.next ?_
  refine CW.seq ?_
  refine CW.seq ?_
  refine CW.region ?_
  refine RL.y rfl (y_asg rfl) ?_
  refine RL.nil ?_
  refine Fin.next ?_
  refine CW.block ?_
  refine CW.loop (fun m E w' => ∃ (k : Nat) (vo : Value), m = a.length - k ∧ k ≤ a.length ∧ agrees E [(0, u), (1, v), (5, vo), (6, .int .i64 (k : Int))] ∧ OV w' w.heap.size 2 vo (ints (idxs (both a b) k)) ∧ Ext w w') _ (⟨0, vo, rfl, Nat.zero_le _, ⟨rfl, rfl, rfl, rfl, trivial⟩, ho1, hE1⟩) ?_
  · rintro m E w2 ⟨k, vo, rfl, hk, hag, ho2, hE2⟩
    refine CW.re _ hag rfl ?_
    have hle := idxs_le (both a b) k
    refine CW.seq ?_
    refine CW.seq ?_
    refine CW.region ?_
    refine RL.y rfl (y_mov (v := .int _ _) rfl) ?_
    refine RL.y rfl (y_mov (by conv => lhs; whnf)) ?_
    refine RL.y rfl (y_len sT34 hu (ints_len _) rfl) ?_
    refine RL.y rfl (y_lt rfl rfl) ?_
    refine RL.nil ?_
    refine Fin.next ?_
    refine CW.cond rfl rfl (fun hc => ?_) (fun hc => ?_)
    · with_reducible first | (replace hc := deNF hc) | (replace hc := of_decide_eq_true hc) | (replace hc := of_decide_eq_false hc) | (replace hc := deNT hc) | (replace hc := deNN hc) | (replace hc := bnT hc) | (replace hc := bnF hc) | skip
      have hltk : k < a.length := by omega
      have hlt' : k < b.length := by omega
      have hbe : both a b k = decide (a[k] = 1 ∧ b[k] = 1) := by unfold both; rw [getD_lt hltk, getD_lt hlt']
      refine CW.skip ?_
      refine Fin.next ?_
      refine CW.seq ?_
      refine CW.block ?_
      refine CW.seq ?_
      refine CW.region ?_
      refine RL.y rfl (y_mov (by conv => lhs; whnf)) ?_
      refine RL.y rfl (y_mov (v := .int _ _) rfl) ?_
      refine RL.y rfl (y_ixa sT34 (eqw (hu.ext hE2)) (k := k) (ints_lt hltk) rfl rfl) ?_
      refine RL.y rfl (y_load sc2 (eqw (hu.ext hE2)) (ints_at hltk) rfl) ?_
      refine RL.y rfl (y_eq rfl rfl) ?_
      refine RL.y rfl (y_mov (v := .bool _) rfl) ?_
      refine RL.split (t := 19) rfl rfl (fun hb => ?_) (fun hb => ?_)
      · with_reducible first | (replace hb := deNF hb) | (replace hb := of_decide_eq_true hb) | (replace hb := of_decide_eq_false hb) | (replace hb := deNT hb) | (replace hb := deNN hb) | (replace hb := bnT hb) | (replace hb := bnF hb) | skip
        refine RL.take (t := 19) rfl rfl rfl ?_
        refine RL.y rfl (y_mov (by conv => lhs; whnf)) ?_
        refine RL.take (t := 19) rfl rfl rfl ?_
        refine RL.y rfl (y_mov (v := .int _ _) rfl) ?_
        refine RL.take (t := 19) rfl rfl rfl ?_
        refine RL.y rfl (y_ixa sT34 (eqw (hv.ext hE2)) (k := k) (ints_lt hlt') rfl rfl) ?_
        refine RL.take (t := 19) rfl rfl rfl ?_
        refine RL.y rfl (y_load sc2 (eqw (hv.ext hE2)) (ints_at hlt') rfl) ?_
        refine RL.take (t := 19) rfl rfl rfl ?_
        refine RL.y rfl (y_eq rfl rfl) ?_
        refine RL.y rfl (y_pickT (v := .bool _) rfl rfl) ?_
        refine RL.nil ?_
        refine Fin.next ?_
        refine CW.cond rfl rfl (fun hb2 => ?_) (fun hb2 => ?_)
        · with_reducible first | (replace hb2 := deNF hb2) | (replace hb2 := of_decide_eq_true hb2) | (replace hb2 := of_decide_eq_false hb2) | (replace hb2 := deNT hb2) | (replace hb2 := deNN hb2) | (replace hb2 := bnT hb2) | (replace hb2 := bnF hb2) | skip
          have hp : both a b k = true := by rw [hbe]; exact decide_eq_true ⟨hb, hb2⟩
          refine CW.region ?_
          refine RL.y rfl (y_mov (by conv => lhs; whnf)) ?_
          refine RL.y rfl (y_mov (v := .int _ _) rfl) ?_
          refine RL.app1i rfl rfl sT34 (by omega) ho2 (by omega) hE2.size rfl (fun _ => rfl) (fun u v6 w6 ho6 hg6 hn6 => ?_)
          refine RL.y rfl (y_asg (by conv => lhs; whnf)) ?_
          refine RL.nil ?_
          refine Fin.blockNormal ?_
          refine Fin.next ?_
          refine CW.region ?_
          refine RL.y rfl (y_mov (v := .int _ _) rfl) ?_
          refine RL.y rfl (y_add rfl rfl (IntWalk.i64_in _ (by omega))) ?_
          refine RL.y rfl (y_asg (v := .int _ _) rfl) ?_
          refine RL.nil ?_
          refine Fin.le ?_
          exact ⟨a.length - (k + 1), by omega, k + 1, v6, rfl, hltk, ⟨rfl, rfl, rfl, rfl, trivial⟩, by rw [idxs_yes hp]; exact ho6, hE2.grown hg6 (fun b hb => (ho2.lt b hb).1)⟩
        · with_reducible first | (replace hb2 := deNF hb2) | (replace hb2 := of_decide_eq_true hb2) | (replace hb2 := of_decide_eq_false hb2) | (replace hb2 := deNT hb2) | (replace hb2 := deNN hb2) | (replace hb2 := bnT hb2) | (replace hb2 := bnF hb2) | skip
          have hp : both a b k = false := by rw [hbe]; exact decide_eq_false (fun h => hb2 h.2)
          refine CW.skip ?_
          refine Fin.blockNormal ?_
          refine Fin.next ?_
          refine CW.region ?_
          refine RL.y rfl (y_mov (v := .int _ _) rfl) ?_
          refine RL.y rfl (y_add rfl rfl (IntWalk.i64_in _ (by omega))) ?_
          refine RL.y rfl (y_asg (v := .int _ _) rfl) ?_
          refine RL.nil ?_
          refine Fin.le ?_
          exact ⟨a.length - (k + 1), by omega, k + 1, vo, rfl, hltk, ⟨rfl, rfl, rfl, rfl, trivial⟩, by rw [idxs_no hp]; exact ho2, hE2⟩
      · with_reducible first | (replace hb := deNF hb) | (replace hb := of_decide_eq_true hb) | (replace hb := of_decide_eq_false hb) | (replace hb := deNT hb) | (replace hb := deNN hb) | (replace hb := bnT hb) | (replace hb := bnF hb) | skip
        have hp : both a b k = false := by rw [hbe]; exact decide_eq_false (fun h => hb h.1)
        refine RL.pass (t := 19) rfl rfl rfl rfl ?_
        refine RL.pass (t := 19) rfl rfl rfl rfl ?_
        refine RL.pass (t := 19) rfl rfl rfl rfl ?_
        refine RL.pass (t := 19) rfl rfl rfl rfl ?_
        refine RL.pass (t := 19) rfl rfl rfl rfl ?_
        refine RL.y rfl (y_pickF (v := .bool _) rfl rfl) ?_
        refine RL.nil ?_
        refine Fin.next ?_
        refine CW.condF rfl rfl ?_
        refine CW.skip ?_
        refine Fin.blockNormal ?_
        refine Fin.next ?_
        refine CW.region ?_
        refine RL.y rfl (y_mov (v := .int _ _) rfl) ?_
        refine RL.y rfl (y_add rfl rfl (IntWalk.i64_in _ (by omega))) ?_
        refine RL.y rfl (y_asg (v := .int _ _) rfl) ?_
        refine RL.nil ?_
        refine Fin.le ?_
        exact ⟨a.length - (k + 1), by omega, k + 1, vo, rfl, hltk, ⟨rfl, rfl, rfl, rfl, trivial⟩, by rw [idxs_no hp]; exact ho2, hE2⟩
    · with_reducible first | (replace hc := deNF hc) | (replace hc := of_decide_eq_true hc) | (replace hc := of_decide_eq_false hc) | (replace hc := deNT hc) | (replace hc := deNN hc) | (replace hc := bnT hc) | (replace hc := bnF hc) | skip
      obtain rfl : k = a.length := by omega
      refine CW.exit ?_
      refine Fin.thenExit ?_
      refine Fin.thenExit ?_
      refine Fin.blockHit ?_
      refine Fin.next ?_
      refine CW.seq ?_
      refine CW.region ?_
      refine RL.y rfl (y_mov (by conv => lhs; whnf)) ?_
      refine RL.y rfl (y_asg (by conv => lhs; whnf)) ?_
      refine RL.nil ?_
      refine Fin.next ?_
      refine CW.ret ?_
      refine Fin.ret1 rfl (by conv => lhs; whnf) ?_
      exact ⟨_, rfl, ho2, hE2⟩

theorem inCommon_any {w : World} {u v : Value} {a b : List Int} (hu : SI w u a) (hv : SI w v b) (hl : a.length = b.length) (h12 : a.length ≤ 12) :
    Does Try.prog 37 #[u, v] w (fun v' w' => OV w' w.heap.size 2 v' (ints (common a b)) ∧ Ext w w') := by
  refine enter Try.func37 rfl 31 Try.ntmps37 rfl (by kernel_rfl) ?_
  refine CW.seq ?_
  refine CW.region ?_
  refine RL.y rfl (y_asg rfl) ?_
  refine RL.nil ?_
  refine Fin.next ?_
  refine CW.seq ?_
  refine CW.region ?_
  refine RL.lit0 rfl sT34 (fun vo w1 ho1 hE1 hb1 => ?_)
  refine RL.y rfl (y_asg (by conv => lhs; whnf)) ?_
  refine RL.nil ?_
  refine Fin.next ?_
  refine CW.seq ?_
  refine CW.seq ?_
  refine CW.region ?_
  refine RL.y rfl (y_mov (by conv => lhs; whnf)) ?_
  refine RL.y rfl (y_len sT34 hu (ints_len _) rfl) ?_
  refine RL.y rfl (y_mov rfl) ?_
  refine RL.nil ?_
  refine Fin.next ?_
  refine CW.block ?_
  refine CW.loop (fun m E w' => ∃ (k : Nat) (vo : Value), m = a.length - k ∧ k ≤ a.length ∧ agrees E [(0, u), (1, v), (5, vo), (9, .int .i64 a.length), (10, .int .i64 (k : Int))] ∧ OV w' w.heap.size 2 vo (ints (idxs (both a b) k)) ∧ Ext w w') _ (⟨0, vo, rfl, Nat.zero_le _, ⟨rfl, rfl, rfl, rfl, rfl, trivial⟩, ho1, hE1⟩) ?_
  · rintro m E w2 ⟨k, vo, rfl, hk, hag, ho2, hE2⟩
    refine CW.re _ hag rfl ?_
    have hle := idxs_le (both a b) k
    refine CW.seq ?_
    refine CW.region ?_
    refine RL.y rfl (y_lt rfl rfl) ?_
    refine RL.nil ?_
    refine Fin.next ?_
    refine CW.seq ?_
    refine CW.cond rfl rfl (fun hc => ?_) (fun hc => ?_)
    · with_reducible first | (replace hc := deNF hc) | (replace hc := of_decide_eq_true hc) | (replace hc := of_decide_eq_false hc) | (replace hc := deNT hc) | (replace hc := deNN hc) | (replace hc := bnT hc) | (replace hc := bnF hc) | skip
      have hltk : k < a.length := by omega
      have hlt' : k < b.length := by omega
      have hbe : both a b k = decide (a[k] = 1 ∧ b[k] = 1) := by unfold both; rw [getD_lt hltk, getD_lt hlt']
      refine CW.skip ?_
      refine Fin.next ?_
      refine CW.seq ?_
      refine CW.block ?_
      refine CW.seq ?_
      refine CW.region ?_
      refine RL.y rfl (y_mov (v := .int _ _) rfl) ?_
      refine RL.y rfl (y_asg (v := .int _ _) rfl) ?_
      refine RL.nil ?_
      refine Fin.next ?_
      refine CW.seq ?_
      refine CW.region ?_
      refine RL.y rfl (y_mov (by conv => lhs; whnf)) ?_
      refine RL.y rfl (y_mov (v := .int _ _) rfl) ?_
      refine RL.y rfl (y_ixa sT34 (eqw (hu.ext hE2)) (k := k) (ints_lt hltk) rfl rfl) ?_
      refine RL.y rfl (y_load sc2 (eqw (hu.ext hE2)) (ints_at hltk) rfl) ?_
      refine RL.y rfl (y_eq rfl rfl) ?_
      refine RL.y rfl (y_mov (v := .bool _) rfl) ?_
      refine RL.split (t := 18) rfl rfl (fun hb => ?_) (fun hb => ?_)
      · with_reducible first | (replace hb := deNF hb) | (replace hb := of_decide_eq_true hb) | (replace hb := of_decide_eq_false hb) | (replace hb := deNT hb) | (replace hb := deNN hb) | (replace hb := bnT hb) | (replace hb := bnF hb) | skip
        refine RL.take (t := 18) rfl rfl rfl ?_
        refine RL.y rfl (y_mov (by conv => lhs; whnf)) ?_
        refine RL.take (t := 18) rfl rfl rfl ?_
        refine RL.y rfl (y_mov (v := .int _ _) rfl) ?_
        refine RL.take (t := 18) rfl rfl rfl ?_
        refine RL.y rfl (y_ixa sT34 (eqw (hv.ext hE2)) (k := k) (ints_lt hlt') rfl rfl) ?_
        refine RL.take (t := 18) rfl rfl rfl ?_
        refine RL.y rfl (y_load sc2 (eqw (hv.ext hE2)) (ints_at hlt') rfl) ?_
        refine RL.take (t := 18) rfl rfl rfl ?_
        refine RL.y rfl (y_eq rfl rfl) ?_
        refine RL.y rfl (y_pickT (v := .bool _) rfl rfl) ?_
        refine RL.nil ?_
        refine Fin.next ?_
        refine CW.cond rfl rfl (fun hb2 => ?_) (fun hb2 => ?_)
        · with_reducible first | (replace hb2 := deNF hb2) | (replace hb2 := of_decide_eq_true hb2) | (replace hb2 := of_decide_eq_false hb2) | (replace hb2 := deNT hb2) | (replace hb2 := deNN hb2) | (replace hb2 := bnT hb2) | (replace hb2 := bnF hb2) | skip
          have hp : both a b k = true := by rw [hbe]; exact decide_eq_true ⟨hb, hb2⟩
          refine CW.region ?_
          refine RL.y rfl (y_mov (by conv => lhs; whnf)) ?_
          refine RL.y rfl (y_mov (v := .int _ _) rfl) ?_
          refine RL.app1i rfl rfl sT34 (by omega) ho2 (by omega) hE2.size rfl (fun _ => rfl) (fun u v6 w6 ho6 hg6 hn6 => ?_)
          refine RL.y rfl (y_asg (by conv => lhs; whnf)) ?_
          refine RL.nil ?_
          refine Fin.blockNormal ?_
          refine Fin.next ?_
          refine CW.region ?_
          refine RL.y rfl (y_add rfl rfl (IntWalk.i64_in _ (by omega))) ?_
          refine RL.y rfl (y_mov (v := .int _ _) rfl) ?_
          refine RL.nil ?_
          refine Fin.le ?_
          exact ⟨a.length - (k + 1), by omega, k + 1, v6, rfl, hltk, ⟨rfl, rfl, rfl, rfl, rfl, trivial⟩, by rw [idxs_yes hp]; exact ho6, hE2.grown hg6 (fun b hb => (ho2.lt b hb).1)⟩
        · with_reducible first | (replace hb2 := deNF hb2) | (replace hb2 := of_decide_eq_true hb2) | (replace hb2 := of_decide_eq_false hb2) | (replace hb2 := deNT hb2) | (replace hb2 := deNN hb2) | (replace hb2 := bnT hb2) | (replace hb2 := bnF hb2) | skip
          have hp : both a b k = false := by rw [hbe]; exact decide_eq_false (fun h => hb2 h.2)
          refine CW.skip ?_
          refine Fin.blockNormal ?_
          refine Fin.next ?_
          refine CW.region ?_
          refine RL.y rfl (y_add rfl rfl (IntWalk.i64_in _ (by omega))) ?_
          refine RL.y rfl (y_mov (v := .int _ _) rfl) ?_
          refine RL.nil ?_
          refine Fin.le ?_
          exact ⟨a.length - (k + 1), by omega, k + 1, vo, rfl, hltk, ⟨rfl, rfl, rfl, rfl, rfl, trivial⟩, by rw [idxs_no hp]; exact ho2, hE2⟩
      · with_reducible first | (replace hb := deNF hb) | (replace hb := of_decide_eq_true hb) | (replace hb := of_decide_eq_false hb) | (replace hb := deNT hb) | (replace hb := deNN hb) | (replace hb := bnT hb) | (replace hb := bnF hb) | skip
        have hp : both a b k = false := by rw [hbe]; exact decide_eq_false (fun h => hb h.1)
        refine RL.pass (t := 18) rfl rfl rfl rfl ?_
        refine RL.pass (t := 18) rfl rfl rfl rfl ?_
        refine RL.pass (t := 18) rfl rfl rfl rfl ?_
        refine RL.pass (t := 18) rfl rfl rfl rfl ?_
        refine RL.pass (t := 18) rfl rfl rfl rfl ?_
        refine RL.y rfl (y_pickF (v := .bool _) rfl rfl) ?_
        refine RL.nil ?_
        refine Fin.next ?_
        refine CW.condF rfl rfl ?_
        refine CW.skip ?_
        refine Fin.blockNormal ?_
        refine Fin.next ?_
        refine CW.region ?_
        refine RL.y rfl (y_add rfl rfl (IntWalk.i64_in _ (by omega))) ?_
        refine RL.y rfl (y_mov (v := .int _ _) rfl) ?_
        refine RL.nil ?_
        refine Fin.le ?_
        exact ⟨a.length - (k + 1), by omega, k + 1, vo, rfl, hltk, ⟨rfl, rfl, rfl, rfl, rfl, trivial⟩, by rw [idxs_no hp]; exact ho2, hE2⟩
    · with_reducible first | (replace hc := deNF hc) | (replace hc := of_decide_eq_true hc) | (replace hc := of_decide_eq_false hc) | (replace hc := deNT hc) | (replace hc := deNN hc) | (replace hc := bnT hc) | (replace hc := bnF hc) | skip
      obtain rfl : k = a.length := by omega
      refine CW.exit ?_
      refine Fin.thenExit ?_
      refine Fin.thenExit ?_
      refine Fin.blockHit ?_
      refine Fin.next ?_
      refine CW.seq ?_
      refine CW.region ?_
      refine RL.y rfl (y_mov (by conv => lhs; whnf)) ?_
      refine RL.y rfl (y_asg (by conv => lhs; whnf)) ?_
      refine RL.nil ?_
      refine Fin.next ?_
      refine CW.ret ?_
      refine Fin.ret1 rfl (by conv => lhs; whnf) ?_
      exact ⟨_, rfl, ho2, hE2⟩

theorem l01Sum_any {w : World} {u : Value} {a : List Int} (hu : SI w u a) (hb : zo a) (h12 : a.length ≤ 12) :
    Does Try.prog 31 #[u] w (fun r w' => r = .int .i64 (sumL a) ∧ w = w') := by
  refine enter Try.func31 rfl 18 Try.ntmps31 rfl (by kernel_rfl) ?_
  refine CW.seq ?_
  refine CW.region ?_
  refine RL.y rfl (y_asg rfl) ?_
  refine RL.nil ?_
  refine Fin.next ?_
  refine CW.seq ?_
  refine CW.region ?_
  refine RL.y rfl (y_asg rfl) ?_
  refine RL.nil ?_
  refine Fin.next ?_
  refine CW.seq ?_
  refine CW.seq ?_
  refine CW.region ?_
  refine RL.y rfl (y_asg rfl) ?_
  refine RL.nil ?_
  refine Fin.next ?_
  refine CW.block ?_
  refine CW.loop (fun m E w' => ∃ k : Nat, m = a.length - k ∧ k ≤ a.length ∧ agrees E [(0, u), (3, .int .i64 (sumTo a k)), (4, .int .i64 (k : Int))] ∧ w = w') _ ⟨0, rfl, Nat.zero_le _, ⟨rfl, rfl, rfl, trivial⟩, rfl⟩ ?_
  · rintro m E w2 ⟨k, rfl, hkk, hagk, rfl⟩
    refine CW.re _ hagk rfl ?_
    clear hagk
    refine CW.seq ?_
    refine CW.seq ?_
    refine CW.region ?_
    refine RL.y rfl (y_mov (v := .int _ _) rfl) ?_
    refine RL.y rfl (y_mov (by conv => lhs; whnf)) ?_
    refine RL.y rfl (y_len sT34 hu (ints_len _) rfl) ?_
    refine RL.y rfl (y_lt rfl rfl) ?_
    refine RL.nil ?_
    refine Fin.next ?_
    refine CW.cond rfl rfl (fun hck => ?_) (fun hck => ?_)
    · with_reducible first | (replace hck := deNF hck) | (replace hck := of_decide_eq_true hck) | (replace hck := of_decide_eq_false hck) | (replace hck := deNT hck) | (replace hck := deNN hck) | (replace hck := bnT hck) | (replace hck := bnF hck) | skip
      have hltk : k < a.length := by omega
      have hs := sumTo_range hb (k + 1)
      have hs2 : sumTo a (k + 1) = sumTo a k + a[k] := by simp only [sumTo, getD_lt hltk]
      refine CW.skip ?_
      refine Fin.next ?_
      refine CW.seq ?_
      refine CW.block ?_
      refine CW.region ?_
      refine RL.y rfl (y_mov (v := .int _ _) rfl) ?_
      refine RL.y rfl (y_mov (by conv => lhs; whnf)) ?_
      refine RL.y rfl (y_mov (v := .int _ _) rfl) ?_
      refine RL.y rfl (y_ixa sT34 (eqw (hu)) (k := k) (ints_lt hltk) rfl rfl) ?_
      refine RL.y rfl (y_load sc2 (eqw (hu)) (ints_at hltk) rfl) ?_
      refine RL.y rfl (y_add rfl rfl (show _ = sumTo a (k + 1) by rw [← hs2]; exact IntWalk.i64_in _ (by omega))) ?_
      refine RL.y rfl (y_asg (v := .int _ _) rfl) ?_
      refine RL.nil ?_
      refine Fin.blockNormal ?_
      refine Fin.next ?_
      refine CW.region ?_
      refine RL.y rfl (y_mov (v := .int _ _) rfl) ?_
      refine RL.y rfl (y_add rfl rfl (IntWalk.i64_in _ (by omega))) ?_
      refine RL.y rfl (y_asg (v := .int _ _) rfl) ?_
      refine RL.nil ?_
      refine Fin.le ?_
      exact ⟨a.length - (k + 1), by omega, k + 1, rfl, hltk, ⟨rfl, rfl, rfl, trivial⟩, rfl⟩
    · with_reducible first | (replace hck := deNF hck) | (replace hck := of_decide_eq_true hck) | (replace hck := of_decide_eq_false hck) | (replace hck := deNT hck) | (replace hck := deNN hck) | (replace hck := bnT hck) | (replace hck := bnF hck) | skip
      obtain rfl : a.length = k := by omega
      refine CW.exit ?_
      refine Fin.thenExit ?_
      refine Fin.thenExit ?_
      refine Fin.blockHit ?_
      refine Fin.next ?_
      refine CW.seq ?_
      refine CW.region ?_
      refine RL.y rfl (y_mov (v := .int _ _) rfl) ?_
      refine RL.y rfl (y_asg (v := .int _ _) rfl) ?_
      refine RL.nil ?_
      refine Fin.next ?_
      refine CW.ret ?_
      refine Fin.ret1 rfl (by conv => lhs; whnf) ?_
      exact ⟨_, rfl, rfl, rfl⟩

theorem sum_any {w : World} {u : Value} {a : List Int} (hu : SI w u a) (hb : zo a) (h12 : a.length ≤ 12) :
    Does Try.prog 33 #[u] w (fun r w' => r = .int .i64 (sumL a) ∧ w = w') := by
  refine enter Try.func33 rfl 17 Try.ntmps33 rfl (by kernel_rfl) ?_
  refine CW.seq ?_
  refine CW.region ?_
  refine RL.y rfl (y_asg rfl) ?_
  refine RL.nil ?_
  refine Fin.next ?_
  refine CW.seq ?_
  refine CW.region ?_
  refine RL.y rfl (y_asg rfl) ?_
  refine RL.nil ?_
  refine Fin.next ?_
  refine CW.seq ?_
  refine CW.seq ?_
  refine CW.region ?_
  refine RL.y rfl (y_mov (by conv => lhs; whnf)) ?_
  refine RL.y rfl (y_len sT34 hu (ints_len _) rfl) ?_
  refine RL.y rfl (y_mov rfl) ?_
  refine RL.nil ?_
  refine Fin.next ?_
  refine CW.block ?_
  refine CW.loop (fun m E w' => ∃ k : Nat, m = a.length - k ∧ k ≤ a.length ∧ agrees E [(6, u), (7, .int .i64 a.length), (3, .int .i64 (sumTo a k)), (8, .int .i64 (k : Int))] ∧ w = w') _ ⟨0, rfl, Nat.zero_le _, ⟨rfl, rfl, rfl, rfl, trivial⟩, rfl⟩ ?_
  · rintro m E w2 ⟨k, rfl, hkk, hagk, rfl⟩
    refine CW.re _ hagk rfl ?_
    clear hagk
    refine CW.seq ?_
    refine CW.region ?_
    refine RL.y rfl (y_lt rfl rfl) ?_
    refine RL.nil ?_
    refine Fin.next ?_
    refine CW.seq ?_
    refine CW.cond rfl rfl (fun hck => ?_) (fun hck => ?_)
    · with_reducible first | (replace hck := deNF hck) | (replace hck := of_decide_eq_true hck) | (replace hck := of_decide_eq_false hck) | (replace hck := deNT hck) | (replace hck := deNN hck) | (replace hck := bnT hck) | (replace hck := bnF hck) | skip
      have hltk : k < a.length := by omega
      have hs := sumTo_range hb (k + 1)
      have hs2 : sumTo a (k + 1) = sumTo a k + a[k] := by simp only [sumTo, getD_lt hltk]
      refine CW.skip ?_
      refine Fin.next ?_
      refine CW.seq ?_
      refine CW.block ?_
      refine CW.seq ?_
      refine CW.region ?_
      refine RL.y rfl (y_ixa sT34 (eqw (hu)) (k := k) (ints_lt hltk) rfl rfl) ?_
      refine RL.y rfl (y_load sc2 (eqw (hu)) (ints_at hltk) rfl) ?_
      refine RL.y rfl (y_asg (v := .int _ _) rfl) ?_
      refine RL.nil ?_
      refine Fin.next ?_
      refine CW.region ?_
      refine RL.y rfl (y_mov (v := .int _ _) rfl) ?_
      refine RL.y rfl (y_mov (v := .int _ _) rfl) ?_
      refine RL.y rfl (y_add rfl rfl (show _ = sumTo a (k + 1) by rw [← hs2]; exact IntWalk.i64_in _ (by omega))) ?_
      refine RL.y rfl (y_asg (v := .int _ _) rfl) ?_
      refine RL.nil ?_
      refine Fin.blockNormal ?_
      refine Fin.next ?_
      refine CW.region ?_
      refine RL.y rfl (y_add rfl rfl (IntWalk.i64_in _ (by omega))) ?_
      refine RL.y rfl (y_mov (v := .int _ _) rfl) ?_
      refine RL.nil ?_
      refine Fin.le ?_
      exact ⟨a.length - (k + 1), by omega, k + 1, rfl, hltk, ⟨rfl, rfl, rfl, rfl, trivial⟩, rfl⟩
    · with_reducible first | (replace hck := deNF hck) | (replace hck := of_decide_eq_true hck) | (replace hck := of_decide_eq_false hck) | (replace hck := deNT hck) | (replace hck := deNN hck) | (replace hck := bnT hck) | (replace hck := bnF hck) | skip
      obtain rfl : a.length = k := by omega
      refine CW.exit ?_
      refine Fin.thenExit ?_
      refine Fin.thenExit ?_
      refine Fin.blockHit ?_
      refine Fin.next ?_
      refine CW.seq ?_
      refine CW.region ?_
      refine RL.y rfl (y_mov (v := .int _ _) rfl) ?_
      refine RL.y rfl (y_asg (v := .int _ _) rfl) ?_
      refine RL.nil ?_
      refine Fin.next ?_
      refine CW.ret ?_
      refine Fin.ret1 rfl (by conv => lhs; whnf) ?_
      exact ⟨_, rfl, rfl, rfl⟩

theorem isContained_any {w : World} {u v : Value} {a b : List Int} (hu : SI w u a) (hv : SI w v b) (hl : a.length = b.length) (h12 : a.length ≤ 12) (ha : zo a) (hb : zo b) :
    Does Try.prog 36 #[u, v] w (fun r w' => r = .bool (decide (inn a b)) ∧ Ext w w') := by
  refine enter Try.func36 rfl 12 Try.ntmps36 rfl (by kernel_rfl) ?_
  refine CW.seq ?_
  refine CW.region ?_
  refine RL.y rfl (y_asg rfl) ?_
  refine RL.nil ?_
  refine Fin.next ?_
  refine CW.seq ?_
  refine CW.region ?_
  refine RL.y rfl (y_mov (by conv => lhs; whnf)) ?_
  refine RL.y rfl (y_mov (by conv => lhs; whnf)) ?_
  refine RL.call rfl (inCommon_any hu hv hl h12) ?_
  rintro vo w1 ⟨ho, hE⟩
  refine RL.y rfl (y_len sT34 ho.sv (ints_len _) rfl) ?_
  refine RL.y rfl (y_mov (by conv => lhs; whnf)) ?_
  refine RL.call rfl (sum_any (hu.ext hE) ha h12) ?_
  rintro r w2 ⟨rfl, rfl⟩
  refine RL.y rfl (y_eq rfl rfl) ?_
  refine RL.y rfl (y_asg (v := .bool _) rfl) ?_
  refine RL.nil ?_
  refine Fin.next ?_
  refine CW.ret ?_
  refine Fin.ret1 rfl (by conv => lhs; whnf) ?_
  exact ⟨_, rfl, bD (common_eq ha hb), hE⟩

theorem l11Code_any {w : World} {v : Value} {rs : List (List Int)} {k : Int} (hv : RdSS w v rs) :
    Does Try.prog 30 #[v, .int .i64 k] w (fun r w' => r = .int .i64 (tcC rs [k]) ∧ Ext w w') := by
  refine enter Try.func30 rfl 14 Try.ntmps30 rfl (by kernel_rfl) ?_
  refine CW.seq ?_
  refine CW.region ?_
  refine RL.y rfl (y_asg rfl) ?_
  refine RL.nil ?_
  refine Fin.next ?_
  refine CW.seq ?_
  refine CW.seq ?_
  refine CW.region ?_
  refine RL.y rfl (y_mov (by conv => lhs; whnf)) ?_
  refine RL.call rfl (specIsTable_any hv) ?_
  rintro r w1 ⟨rfl, hE⟩
  obtain ⟨cs, hc⟩ := hv
  have hxl := hc.le
  refine RL.y rfl (y_not rfl) ?_
  refine RL.nil ?_
  refine Fin.next ?_
  refine CW.cond rfl rfl (fun hb => ?_) (fun hb => ?_)
  · with_reducible first | (replace hb := deNF hb) | (replace hb := of_decide_eq_true hb) | (replace hb := of_decide_eq_false hb) | (replace hb := deNT hb) | (replace hb := deNN hb) | (replace hb := bnT hb) | (replace hb := bnF hb) | skip
    refine CW.seq ?_
    refine CW.region ?_
    refine RL.y rfl (y_asg rfl) ?_
    refine RL.nil ?_
    refine Fin.next ?_
    refine CW.ret ?_
    refine Fin.thenRet ?_
    refine Fin.ret1 rfl (by conv => lhs; whnf) ?_
    exact ⟨_, rfl, by unfold tcC; rw [if_neg hb], hE⟩
  · with_reducible first | (replace hb := deNF hb) | (replace hb := of_decide_eq_true hb) | (replace hb := of_decide_eq_false hb) | (replace hb := deNT hb) | (replace hb := deNN hb) | (replace hb := bnT hb) | (replace hb := bnF hb) | skip
    refine CW.skip ?_
    refine Fin.next ?_
    refine CW.seq ?_
    refine CW.seq ?_
    refine CW.region ?_
    refine RL.y rfl (y_mov (v := .int _ _) rfl) ?_
    refine RL.y rfl (y_mov (by conv => lhs; whnf)) ?_
    refine RL.y rfl (y_len sT22 hc.1 hc.2.1 rfl) ?_
    refine RL.y rfl (y_sub rfl rfl (IntWalk.i64_in _ (by omega))) ?_
    refine RL.call rfl (l01In_any) ?_
    rintro r w2 ⟨rfl, rfl⟩
    refine RL.y rfl (y_not rfl) ?_
    refine RL.nil ?_
    refine Fin.next ?_
    refine CW.cond rfl rfl (fun hb2 => ?_) (fun hb2 => ?_)
    · with_reducible first | (replace hb2 := deNF hb2) | (replace hb2 := of_decide_eq_true hb2) | (replace hb2 := of_decide_eq_false hb2) | (replace hb2 := deNT hb2) | (replace hb2 := deNN hb2) | (replace hb2 := bnT hb2) | (replace hb2 := bnF hb2) | skip
      refine CW.seq ?_
      refine CW.region ?_
      refine RL.y rfl (y_asg rfl) ?_
      refine RL.nil ?_
      refine Fin.next ?_
      refine CW.ret ?_
      refine Fin.thenRet ?_
      refine Fin.ret1 rfl (by conv => lhs; whnf) ?_
      exact ⟨_, rfl, by unfold tcC; rw [if_pos hb, if_neg (fun h => hb2 (h k (by simp)))], hE⟩
    · with_reducible first | (replace hb2 := deNF hb2) | (replace hb2 := of_decide_eq_true hb2) | (replace hb2 := of_decide_eq_false hb2) | (replace hb2 := deNT hb2) | (replace hb2 := deNN hb2) | (replace hb2 := bnT hb2) | (replace hb2 := bnF hb2) | skip
      refine CW.skip ?_
      refine Fin.next ?_
      refine CW.seq ?_
      refine CW.region ?_
      refine RL.y rfl (y_asg rfl) ?_
      refine RL.nil ?_
      refine Fin.next ?_
      refine CW.ret ?_
      refine Fin.ret1 rfl (by conv => lhs; whnf) ?_
      exact ⟨_, rfl, by unfold tcC; rw [if_pos hb, if_pos (by simpa using hb2)], hE⟩

theorem tableCode_any {w : World} {v u : Value} {rs : List (List Int)} {ks : List Int} (hv : RdSS w v rs) (hu : SI w u ks) :
    Does Try.prog 32 #[v, u] w (fun r w' => r = .int .i64 (tcC rs ks) ∧ w = w') := by
  refine enter Try.func32 rfl 14 Try.ntmps32 rfl (by kernel_rfl) ?_
  refine CW.seq ?_
  refine CW.region ?_
  refine RL.y rfl (y_asg rfl) ?_
  refine RL.nil ?_
  refine Fin.next ?_
  refine CW.seq ?_
  refine CW.seq ?_
  refine CW.region ?_
  refine RL.y rfl (y_mov (by conv => lhs; whnf)) ?_
  refine RL.call rfl (implIsTable_any hv) ?_
  rintro r w1 ⟨rfl, rfl⟩
  obtain ⟨cs, hc⟩ := hv
  have hxl := hc.le
  refine RL.y rfl (y_not rfl) ?_
  refine RL.nil ?_
  refine Fin.next ?_
  refine CW.cond rfl rfl (fun hb => ?_) (fun hb => ?_)
  · with_reducible first | (replace hb := deNF hb) | (replace hb := of_decide_eq_true hb) | (replace hb := of_decide_eq_false hb) | (replace hb := deNT hb) | (replace hb := deNN hb) | (replace hb := bnT hb) | (replace hb := bnF hb) | skip
    refine CW.seq ?_
    refine CW.region ?_
    refine RL.y rfl (y_asg rfl) ?_
    refine RL.nil ?_
    refine Fin.next ?_
    refine CW.ret ?_
    refine Fin.thenRet ?_
    refine Fin.ret1 rfl (by conv => lhs; whnf) ?_
    exact ⟨_, rfl, by unfold tcC; rw [if_neg hb], rfl⟩
  · with_reducible first | (replace hb := deNF hb) | (replace hb := of_decide_eq_true hb) | (replace hb := of_decide_eq_false hb) | (replace hb := deNT hb) | (replace hb := deNN hb) | (replace hb := bnT hb) | (replace hb := bnF hb) | skip
    refine CW.skip ?_
    refine Fin.next ?_
    refine CW.seq ?_
    refine CW.seq ?_
    refine CW.region ?_
    refine RL.y rfl (y_mov (by conv => lhs; whnf)) ?_
    refine RL.y rfl (y_mov (by conv => lhs; whnf)) ?_
    refine RL.y rfl (y_len sT22 hc.1 hc.2.1 rfl) ?_
    refine RL.y rfl (y_sub rfl rfl (IntWalk.i64_in _ (by omega))) ?_
    refine RL.call rfl (allWithin_any hu) ?_
    rintro r w2 ⟨rfl, rfl⟩
    refine RL.y rfl (y_not rfl) ?_
    refine RL.nil ?_
    refine Fin.next ?_
    refine CW.cond rfl rfl (fun hb2 => ?_) (fun hb2 => ?_)
    · with_reducible first | (replace hb2 := deNF hb2) | (replace hb2 := of_decide_eq_true hb2) | (replace hb2 := of_decide_eq_false hb2) | (replace hb2 := deNT hb2) | (replace hb2 := deNN hb2) | (replace hb2 := bnT hb2) | (replace hb2 := bnF hb2) | skip
      refine CW.seq ?_
      refine CW.region ?_
      refine RL.y rfl (y_asg rfl) ?_
      refine RL.nil ?_
      refine Fin.next ?_
      refine CW.ret ?_
      refine Fin.thenRet ?_
      refine Fin.ret1 rfl (by conv => lhs; whnf) ?_
      exact ⟨_, rfl, by unfold tcC; rw [if_pos hb, if_neg hb2], rfl⟩
    · with_reducible first | (replace hb2 := deNF hb2) | (replace hb2 := of_decide_eq_true hb2) | (replace hb2 := of_decide_eq_false hb2) | (replace hb2 := deNT hb2) | (replace hb2 := deNN hb2) | (replace hb2 := bnT hb2) | (replace hb2 := bnF hb2) | skip
      refine CW.skip ?_
      refine Fin.next ?_
      refine CW.seq ?_
      refine CW.region ?_
      refine RL.y rfl (y_asg rfl) ?_
      refine RL.nil ?_
      refine Fin.next ?_
      refine CW.ret ?_
      refine Fin.ret1 rfl (by conv => lhs; whnf) ?_
      exact ⟨_, rfl, by unfold tcC; rw [if_pos hb, if_pos hb2], rfl⟩
end Go.Proofs.Ytaabfkcbkcmneaa
