/-
  ReadProfile and CountBlanks.
-/
import Derived.Test.YtgfaimkbedbanaaFKey2
import Derived.Test.YtgfaimkbedbanaaKey2
namespace Go.Proofs.Ytgfaimkbedbanaa
open B Go.RowKit

theorem specReadProfile_any {w : World} {l : List UInt8} (hl : l.length ≤ 1048576) :
    Does Try.prog 17 #[.string ⟨l.toArray⟩] w (fun r w' => r = .tuple #[.int .i64 (rpV l), .int .i64 (rpC l)] ∧ Ext w w') := by
  refine enter Try.func17 rfl 29 Try.ntmps17 rfl (by kernel_rfl) ?_
  refine CW.seq ?_
  refine CW.region ?_
  refine RL.y rfl (y_asg rfl) ?_
  refine RL.y rfl (y_asg rfl) ?_
  refine RL.nil ?_
  refine Fin.next ?_
  refine CW.seq ?_
  refine CW.region ?_
  refine RL.y rfl (y_asg rfl) ?_
  refine RL.nil ?_
  refine Fin.next ?_
  refine CW.seq ?_
  refine CW.seq ?_
  refine CW.region ?_
  refine RL.y rfl (y_asg rfl) ?_
  refine RL.nil ?_
  refine Fin.next ?_
  refine CW.block ?_
  refine CW.loop (fun m E w' => ∃ k : Nat, m = 12 - k ∧ k ≤ 12 ∧ k ≤ l.length ∧ agrees E [(0, .string ⟨l.toArray⟩), (4, .int .i64 (binv (l.take k) : Int)), (5, .int .i64 (k : Int))] ∧ w = w') _ (⟨0, rfl, by omega, Nat.zero_le _, ⟨rfl, rfl, rfl, trivial⟩, rfl⟩) ?_
  · rintro m E w2 ⟨k, rfl, h12, hk, hag, rfl⟩
    refine CW.re _ hag rfl ?_
    have hlt2 := binv_lt k hk
    have hpw : 2 ^ k ≤ 2 ^ 12 := Nat.pow_le_pow_right (by omega) h12
    refine CW.seq ?_
    refine CW.seq ?_
    refine CW.region ?_
    refine RL.y rfl (y_mov (v := .int _ _) rfl) ?_
    refine RL.y rfl (y_mov (v := .string _) rfl) ?_
    refine RL.y rfl (y_slen Try.underlying9 rfl) ?_
    refine RL.y rfl (y_lt rfl rfl) ?_
    refine RL.y rfl (y_mov (v := .bool _) rfl) ?_
    refine RL.split (t := 10) rfl rfl (fun hb => ?_) (fun hb => ?_)
    · with_reducible first | (replace hb := deNF hb) | (replace hb := of_decide_eq_true hb) | (replace hb := of_decide_eq_false hb) | (replace hb := deNT hb) | (replace hb := deNN hb) | (replace hb := bnT hb) | (replace hb := bnF hb) | skip
      refine RL.take (t := 10) rfl rfl rfl ?_
      refine RL.y rfl (y_mov (v := .int _ _) rfl) ?_
      refine RL.take (t := 10) rfl rfl rfl ?_
      refine RL.y rfl (y_lt rfl rfl) ?_
      refine RL.y rfl (y_pickT (v := .bool _) rfl rfl) ?_
      refine RL.nil ?_
      refine Fin.next ?_
      refine CW.cond rfl rfl (fun hc => ?_) (fun hc => ?_)
      · with_reducible first | (replace hc := deNF hc) | (replace hc := of_decide_eq_true hc) | (replace hc := of_decide_eq_false hc) | (replace hc := deNT hc) | (replace hc := deNN hc) | (replace hc := bnT hc) | (replace hc := bnF hc) | skip
        have hkl : k < l.length := by omega
        have hk12 : k < 12 := by omega
        refine CW.skip ?_
        refine Fin.next ?_
        refine CW.seq ?_
        refine CW.block ?_
        refine CW.seq ?_
        refine CW.region ?_
        refine RL.y rfl (y_mov (v := .int _ _) rfl) ?_
        refine RL.y rfl (y_mul rfl rfl (IntWalk.i64_in _ (by omega))) ?_
        refine RL.y rfl (y_asg (v := .int _ _) rfl) ?_
        refine RL.nil ?_
        refine Fin.next ?_
        refine CW.seq ?_
        refine CW.region ?_
        refine RL.y rfl (y_mov (v := .string _) rfl) ?_
        refine RL.y rfl (y_mov (v := .int _ _) rfl) ?_
        refine RL.y rfl (y_sidx Try.underlying9 ((List.getElem?_eq_getElem hkl)) rfl rfl) ?_
        refine RL.y rfl (y_eq rfl rfl) ?_
        refine RL.nil ?_
        refine Fin.next ?_
        refine CW.cond rfl rfl (fun hc2 => ?_) (fun hc2 => ?_)
        · with_reducible first | (replace hc2 := deNF hc2) | (replace hc2 := of_decide_eq_true hc2) | (replace hc2 := of_decide_eq_false hc2) | (replace hc2 := deNT hc2) | (replace hc2 := deNN hc2) | (replace hc2 := bnT hc2) | (replace hc2 := bnF hc2) | skip
          rw [u8_35] at hc2
          refine CW.region ?_
          refine RL.y rfl (y_mov (v := .int _ _) rfl) ?_
          refine RL.y rfl (y_add rfl rfl (IntWalk.i64_in _ (by omega))) ?_
          refine RL.y rfl (y_asg (v := .int _ _) rfl) ?_
          refine RL.nil ?_
          refine Fin.blockNormal ?_
          refine Fin.next ?_
          refine CW.region ?_
          refine RL.y rfl (y_mov (v := .int _ _) rfl) ?_
          refine RL.y rfl (y_add rfl rfl (IntWalk.i64_in _ (by omega))) ?_
          refine RL.y rfl (y_asg (v := .int _ _) rfl) ?_
          refine RL.nil ?_
          refine Fin.le ?_
          exact ⟨12 - (k + 1), by omega, k + 1, rfl, by omega, hkl, ⟨rfl, by rw [binv_succ hkl, hc2]; rfl, rfl, trivial⟩, rfl⟩
        · with_reducible first | (replace hc2 := deNF hc2) | (replace hc2 := of_decide_eq_true hc2) | (replace hc2 := of_decide_eq_false hc2) | (replace hc2 := deNT hc2) | (replace hc2 := deNN hc2) | (replace hc2 := bnT hc2) | (replace hc2 := bnF hc2) | skip
          rw [u8_35] at hc2
          refine CW.skip ?_
          refine Fin.blockNormal ?_
          refine Fin.next ?_
          refine CW.region ?_
          refine RL.y rfl (y_mov (v := .int _ _) rfl) ?_
          refine RL.y rfl (y_add rfl rfl (IntWalk.i64_in _ (by omega))) ?_
          refine RL.y rfl (y_asg (v := .int _ _) rfl) ?_
          refine RL.nil ?_
          refine Fin.le ?_
          exact ⟨12 - (k + 1), by omega, k + 1, rfl, by omega, hkl, ⟨rfl, by rw [binv_succ hkl, show cbit l[k] = 0 from if_neg hc2]; rfl, rfl, trivial⟩, rfl⟩
      · with_reducible first | (replace hc := deNF hc) | (replace hc := of_decide_eq_true hc) | (replace hc := of_decide_eq_false hc) | (replace hc := deNT hc) | (replace hc := deNN hc) | (replace hc := bnT hc) | (replace hc := bnF hc) | skip
        have hs := rp_same hk h12 (by omega)
        refine CW.exit ?_
        refine Fin.thenExit ?_
        refine Fin.thenExit ?_
        refine Fin.blockHit ?_
        refine Fin.next ?_
        refine CW.seq ?_
        refine CW.seq ?_
        refine CW.region ?_
        refine RL.y rfl (y_mov (v := .int _ _) rfl) ?_
        refine RL.call rfl (l06Text_any) ?_
        rintro r w4 ⟨rfl, hE4⟩
        refine RL.y rfl (y_mov (v := .string _) rfl) ?_
        refine RL.y rfl (y_sne rfl rfl) ?_
        refine RL.nil ?_
        refine Fin.next ?_
        refine CW.cond rfl rfl (fun hc3 => ?_) (fun hc3 => ?_)
        · with_reducible first | (replace hc3 := deNF hc3) | (replace hc3 := of_decide_eq_true hc3) | (replace hc3 := of_decide_eq_false hc3) | (replace hc3 := deNT hc3) | (replace hc3 := deNN hc3) | (replace hc3 := bnT hc3) | (replace hc3 := bnF hc3) | skip
          have hno : ¬ ptOk l := fun h => hc3 (hs.2 h)
          refine CW.seq ?_
          refine CW.region ?_
          refine RL.y rfl (y_asg rfl) ?_
          refine RL.y rfl (y_asg rfl) ?_
          refine RL.nil ?_
          refine Fin.next ?_
          refine CW.ret ?_
          refine Fin.thenRet ?_
          refine Fin.ret2 rfl (by conv => lhs; whnf) (by conv => lhs; whnf) ?_
          exact ⟨_, rfl, by simp [rpV, rpC, hno], hE4⟩
        · with_reducible first | (replace hc3 := deNF hc3) | (replace hc3 := of_decide_eq_true hc3) | (replace hc3 := of_decide_eq_false hc3) | (replace hc3 := deNT hc3) | (replace hc3 := deNN hc3) | (replace hc3 := bnT hc3) | (replace hc3 := bnF hc3) | skip
          have hyes : ptOk l := hs.1 hc3
          have hkk : l.take k = l := by rw [show k = l.length from by have := hyes.1; omega]; exact List.take_length
          refine CW.skip ?_
          refine Fin.next ?_
          refine CW.seq ?_
          refine CW.region ?_
          refine RL.y rfl (y_mov (v := .int _ _) rfl) ?_
          refine RL.y rfl (y_asg (v := .int _ _) rfl) ?_
          refine RL.y rfl (y_asg rfl) ?_
          refine RL.nil ?_
          refine Fin.next ?_
          refine CW.ret ?_
          refine Fin.ret2 rfl (by conv => lhs; whnf) (by conv => lhs; whnf) ?_
          exact ⟨_, rfl, by simp [rpV, rpC, hyes, hkk], hE4⟩
    · with_reducible first | (replace hb := deNF hb) | (replace hb := of_decide_eq_true hb) | (replace hb := of_decide_eq_false hb) | (replace hb := deNT hb) | (replace hb := deNN hb) | (replace hb := bnT hb) | (replace hb := bnF hb) | skip
      have hs := rp_same hk h12 (by omega)
      refine RL.pass (t := 10) rfl rfl rfl rfl ?_
      refine RL.pass (t := 10) rfl rfl rfl rfl ?_
      refine RL.y rfl (y_pickF (v := .bool _) rfl rfl) ?_
      refine RL.nil ?_
      refine Fin.next ?_
      refine CW.condF rfl rfl ?_
      refine CW.exit ?_
      refine Fin.thenExit ?_
      refine Fin.thenExit ?_
      refine Fin.blockHit ?_
      refine Fin.next ?_
      refine CW.seq ?_
      refine CW.seq ?_
      refine CW.region ?_
      refine RL.y rfl (y_mov (v := .int _ _) rfl) ?_
      refine RL.call rfl (l06Text_any) ?_
      rintro r w4 ⟨rfl, hE4⟩
      refine RL.y rfl (y_mov (v := .string _) rfl) ?_
      refine RL.y rfl (y_sne rfl rfl) ?_
      refine RL.nil ?_
      refine Fin.next ?_
      refine CW.cond rfl rfl (fun hc3 => ?_) (fun hc3 => ?_)
      · with_reducible first | (replace hc3 := deNF hc3) | (replace hc3 := of_decide_eq_true hc3) | (replace hc3 := of_decide_eq_false hc3) | (replace hc3 := deNT hc3) | (replace hc3 := deNN hc3) | (replace hc3 := bnT hc3) | (replace hc3 := bnF hc3) | skip
        have hno : ¬ ptOk l := fun h => hc3 (hs.2 h)
        refine CW.seq ?_
        refine CW.region ?_
        refine RL.y rfl (y_asg rfl) ?_
        refine RL.y rfl (y_asg rfl) ?_
        refine RL.nil ?_
        refine Fin.next ?_
        refine CW.ret ?_
        refine Fin.thenRet ?_
        refine Fin.ret2 rfl (by conv => lhs; whnf) (by conv => lhs; whnf) ?_
        exact ⟨_, rfl, by simp [rpV, rpC, hno], hE4⟩
      · with_reducible first | (replace hc3 := deNF hc3) | (replace hc3 := of_decide_eq_true hc3) | (replace hc3 := of_decide_eq_false hc3) | (replace hc3 := deNT hc3) | (replace hc3 := deNN hc3) | (replace hc3 := bnT hc3) | (replace hc3 := bnF hc3) | skip
        have hyes : ptOk l := hs.1 hc3
        have hkk : l.take k = l := by rw [show k = l.length from by have := hyes.1; omega]; exact List.take_length
        refine CW.skip ?_
        refine Fin.next ?_
        refine CW.seq ?_
        refine CW.region ?_
        refine RL.y rfl (y_mov (v := .int _ _) rfl) ?_
        refine RL.y rfl (y_asg (v := .int _ _) rfl) ?_
        refine RL.y rfl (y_asg rfl) ?_
        refine RL.nil ?_
        refine Fin.next ?_
        refine CW.ret ?_
        refine Fin.ret2 rfl (by conv => lhs; whnf) (by conv => lhs; whnf) ?_
        exact ⟨_, rfl, by simp [rpV, rpC, hyes, hkk], hE4⟩

theorem implReadProfile_any {w : World} {l : List UInt8} (hl : l.length ≤ 1048576) :
    Does Try.prog 18 #[.string ⟨l.toArray⟩] w (fun r w' => r = .tuple #[.int .i64 (rpV l), .int .i64 (rpC l)] ∧ w = w') := by
  refine enter Try.func18 rfl 35 Try.ntmps18 rfl (by kernel_rfl) ?_
  refine CW.seq ?_
  refine CW.region ?_
  refine RL.y rfl (y_asg rfl) ?_
  refine RL.y rfl (y_asg rfl) ?_
  refine RL.nil ?_
  refine Fin.next ?_
  refine CW.seq ?_
  refine CW.region ?_
  refine RL.y rfl (y_asg rfl) ?_
  refine RL.nil ?_
  refine Fin.next ?_
  refine CW.seq ?_
  refine CW.seq ?_
  refine CW.region ?_
  refine RL.y rfl (y_mov (v := .string _) rfl) ?_
  refine RL.y rfl (y_slen Try.underlying9 rfl) ?_
  refine RL.y rfl (y_mov rfl) ?_
  refine RL.nil ?_
  refine Fin.next ?_
  refine CW.block ?_
  refine CW.loop (fun m E w' => ∃ k : Nat, m = l.length - k ∧ k ≤ l.length ∧ agrees E [(0, .string ⟨l.toArray⟩), (7, .int .i64 l.length), (4, .int .i64 ((binv (l.take k) % 4096 : Nat) : Int)), (8, .int .i64 (k : Int))] ∧ (∀ c ∈ l.take k, c = 35 ∨ c = 46) ∧ w = w') _ ⟨0, rfl, Nat.zero_le _, ⟨rfl, rfl, rfl, rfl, trivial⟩, by simp, rfl⟩ ?_
  · rintro m E w2 ⟨k, rfl, hkk, hagk, hall, rfl⟩
    refine CW.re _ hagk rfl ?_
    clear hagk
    have hm : binv (l.take k) % 4096 < 4096 := Nat.mod_lt _ (by omega)
    refine CW.seq ?_
    refine CW.region ?_
    refine RL.y rfl (y_lt rfl rfl) ?_
    refine RL.nil ?_
    refine Fin.next ?_
    refine CW.seq ?_
    refine CW.cond rfl rfl (fun hck => ?_) (fun hck => ?_)
    · with_reducible first | (replace hck := deNF hck) | (replace hck := of_decide_eq_true hck) | (replace hck := of_decide_eq_false hck) | (replace hck := deNT hck) | (replace hck := deNN hck) | (replace hck := bnT hck) | (replace hck := bnF hck) | skip
      have hltk : k < l.length := by omega
      refine CW.skip ?_
      refine Fin.next ?_
      refine CW.seq ?_
      refine CW.block ?_
      refine CW.seq ?_
      refine CW.region ?_
      refine RL.y rfl (y_mov (v := .int _ _) rfl) ?_
      refine RL.y rfl (y_asg (v := .int _ _) rfl) ?_
      refine RL.nil ?_
      refine Fin.next ?_
      refine CW.seq ?_
      refine CW.seq ?_
      refine CW.region ?_
      refine RL.y rfl (y_mov (v := .string _) rfl) ?_
      refine RL.y rfl (y_mov (v := .int _ _) rfl) ?_
      refine RL.y rfl (y_sidx Try.underlying9 ((List.getElem?_eq_getElem hltk)) rfl rfl) ?_
      refine RL.y rfl (y_ne rfl rfl) ?_
      refine RL.y rfl (y_mov (v := .bool _) rfl) ?_
      refine RL.split (t := 15) rfl rfl (fun hb => ?_) (fun hb => ?_)
      · with_reducible first | (replace hb := deNF hb) | (replace hb := of_decide_eq_true hb) | (replace hb := of_decide_eq_false hb) | (replace hb := deNT hb) | (replace hb := deNN hb) | (replace hb := bnT hb) | (replace hb := bnF hb) | skip
        rw [ne_eq, u8_35] at hb
        refine RL.take (t := 15) rfl rfl rfl ?_
        refine RL.y rfl (y_mov (v := .string _) rfl) ?_
        refine RL.take (t := 15) rfl rfl rfl ?_
        refine RL.y rfl (y_mov (v := .int _ _) rfl) ?_
        refine RL.take (t := 15) rfl rfl rfl ?_
        refine RL.y rfl (y_sidx Try.underlying9 ((List.getElem?_eq_getElem hltk)) rfl rfl) ?_
        refine RL.take (t := 15) rfl rfl rfl ?_
        refine RL.y rfl (y_ne rfl rfl) ?_
        refine RL.y rfl (y_pickT (v := .bool _) rfl rfl) ?_
        refine RL.nil ?_
        refine Fin.next ?_
        refine CW.cond rfl rfl (fun hc2 => ?_) (fun hc2 => ?_)
        · with_reducible first | (replace hc2 := deNF hc2) | (replace hc2 := of_decide_eq_true hc2) | (replace hc2 := of_decide_eq_false hc2) | (replace hc2 := deNT hc2) | (replace hc2 := deNN hc2) | (replace hc2 := bnT hc2) | (replace hc2 := bnF hc2) | skip
          rw [ne_eq, u8_46] at hc2
          have hno : ¬ ptOk l := fun h => by rcases h.2 _ (List.getElem_mem hltk) with h | h; exact hb h; exact hc2 h
          refine CW.seq ?_
          refine CW.region ?_
          refine RL.y rfl (y_asg rfl) ?_
          refine RL.y rfl (y_asg rfl) ?_
          refine RL.nil ?_
          refine Fin.next ?_
          refine CW.ret ?_
          refine Fin.thenRet ?_
          refine Fin.blockRet ?_
          refine Fin.thenRet ?_
          refine Fin.thenRet ?_
          refine Fin.blockRet ?_
          refine Fin.thenRet ?_
          refine Fin.ret2 rfl (by conv => lhs; whnf) (by conv => lhs; whnf) ?_
          exact ⟨_, rfl, by simp [rpV, rpC, hno], rfl⟩
        · with_reducible first | (replace hc2 := deNF hc2) | (replace hc2 := of_decide_eq_true hc2) | (replace hc2 := of_decide_eq_false hc2) | (replace hc2 := deNT hc2) | (replace hc2 := deNN hc2) | (replace hc2 := bnT hc2) | (replace hc2 := bnF hc2) | skip
          rw [u8_46] at hc2
          refine CW.skip ?_
          refine Fin.next ?_
          refine CW.seq ?_
          refine CW.region ?_
          refine RL.y rfl (y_mov (v := .int _ _) rfl) ?_
          refine RL.y rfl (y_shl rfl rfl (by omega) (rp_shl hm)) ?_
          refine RL.y rfl (y_and rfl rfl (rp_and hm)) ?_
          refine RL.y rfl (y_asg (v := .int _ _) rfl) ?_
          refine RL.nil ?_
          refine Fin.next ?_
          refine CW.seq ?_
          refine CW.region ?_
          refine RL.y rfl (y_mov (v := .string _) rfl) ?_
          refine RL.y rfl (y_mov (v := .int _ _) rfl) ?_
          refine RL.y rfl (y_sidx Try.underlying9 ((List.getElem?_eq_getElem hltk)) rfl rfl) ?_
          refine RL.y rfl (y_eq rfl rfl) ?_
          refine RL.nil ?_
          refine Fin.next ?_
          refine CW.condF rfl (by rw [decide_eq_false_iff_not, u8_35]; exact hb) ?_
          refine CW.skip ?_
          refine Fin.blockNormal ?_
          refine Fin.next ?_
          refine CW.region ?_
          refine RL.y rfl (y_add rfl rfl (IntWalk.i64_in _ (by omega))) ?_
          refine RL.y rfl (y_mov (v := .int _ _) rfl) ?_
          refine RL.nil ?_
          refine Fin.le ?_
          exact ⟨l.length - (k + 1), by omega, k + 1, rfl, hltk, ⟨rfl, rfl, by rw [← rp_no hltk hb]; rfl, rfl, trivial⟩, all_snoc hltk hall (.inr hc2), rfl⟩
      · with_reducible first | (replace hb := deNF hb) | (replace hb := of_decide_eq_true hb) | (replace hb := of_decide_eq_false hb) | (replace hb := deNT hb) | (replace hb := deNN hb) | (replace hb := bnT hb) | (replace hb := bnF hb) | skip
        rw [u8_35] at hb
        refine RL.pass (t := 15) rfl rfl rfl rfl ?_
        refine RL.pass (t := 15) rfl rfl rfl rfl ?_
        refine RL.pass (t := 15) rfl rfl rfl rfl ?_
        refine RL.pass (t := 15) rfl rfl rfl rfl ?_
        refine RL.y rfl (y_pickF (v := .bool _) rfl rfl) ?_
        refine RL.nil ?_
        refine Fin.next ?_
        refine CW.condF rfl rfl ?_
        refine CW.skip ?_
        refine Fin.next ?_
        refine CW.seq ?_
        refine CW.region ?_
        refine RL.y rfl (y_mov (v := .int _ _) rfl) ?_
        refine RL.y rfl (y_shl rfl rfl (by omega) (rp_shl hm)) ?_
        refine RL.y rfl (y_and rfl rfl (rp_and hm)) ?_
        refine RL.y rfl (y_asg (v := .int _ _) rfl) ?_
        refine RL.nil ?_
        refine Fin.next ?_
        refine CW.seq ?_
        refine CW.region ?_
        refine RL.y rfl (y_mov (v := .string _) rfl) ?_
        refine RL.y rfl (y_mov (v := .int _ _) rfl) ?_
        refine RL.y rfl (y_sidx Try.underlying9 ((List.getElem?_eq_getElem hltk)) rfl rfl) ?_
        refine RL.y rfl (y_eq rfl rfl) ?_
        refine RL.nil ?_
        refine Fin.next ?_
        refine CW.condT rfl (by rw [decide_eq_true_eq, u8_35]; exact hb) ?_
        refine CW.region ?_
        refine RL.y rfl (y_mov (v := .int _ _) rfl) ?_
        refine RL.y rfl (y_add rfl rfl (IntWalk.i64_in _ (by omega))) ?_
        refine RL.y rfl (y_asg (v := .int _ _) rfl) ?_
        refine RL.nil ?_
        refine Fin.blockNormal ?_
        refine Fin.next ?_
        refine CW.region ?_
        refine RL.y rfl (y_add rfl rfl (IntWalk.i64_in _ (by omega))) ?_
        refine RL.y rfl (y_mov (v := .int _ _) rfl) ?_
        refine RL.nil ?_
        refine Fin.le ?_
        exact ⟨l.length - (k + 1), by omega, k + 1, rfl, hltk, ⟨rfl, rfl, by rw [← rp_yes hltk hb]; rfl, rfl, trivial⟩, all_snoc hltk hall (.inl hb), rfl⟩
    · with_reducible first | (replace hck := deNF hck) | (replace hck := of_decide_eq_true hck) | (replace hck := of_decide_eq_false hck) | (replace hck := deNT hck) | (replace hck := deNN hck) | (replace hck := bnT hck) | (replace hck := bnF hck) | skip
      obtain rfl : l.length = k := by omega
      refine CW.exit ?_
      refine Fin.thenExit ?_
      refine Fin.thenExit ?_
      refine Fin.blockHit ?_
      refine Fin.next ?_
      refine CW.seq ?_
      refine CW.seq ?_
      refine CW.region ?_
      refine RL.y rfl (y_mov (v := .string _) rfl) ?_
      refine RL.y rfl (y_slen Try.underlying9 rfl) ?_
      refine RL.y rfl (y_ne rfl rfl) ?_
      refine RL.nil ?_
      refine Fin.next ?_
      refine CW.cond rfl rfl (fun hc2 => ?_) (fun hc2 => ?_)
      · with_reducible first | (replace hc2 := deNF hc2) | (replace hc2 := of_decide_eq_true hc2) | (replace hc2 := of_decide_eq_false hc2) | (replace hc2 := deNT hc2) | (replace hc2 := deNN hc2) | (replace hc2 := bnT hc2) | (replace hc2 := bnF hc2) | skip
        have hno : ¬ ptOk l := fun h => hc2 (by have := h.1; omega)
        refine CW.seq ?_
        refine CW.region ?_
        refine RL.y rfl (y_asg rfl) ?_
        refine RL.y rfl (y_asg rfl) ?_
        refine RL.nil ?_
        refine Fin.next ?_
        refine CW.ret ?_
        refine Fin.thenRet ?_
        refine Fin.ret2 rfl (by conv => lhs; whnf) (by conv => lhs; whnf) ?_
        exact ⟨_, rfl, by simp [rpV, rpC, hno], rfl⟩
      · with_reducible first | (replace hc2 := deNF hc2) | (replace hc2 := of_decide_eq_true hc2) | (replace hc2 := of_decide_eq_false hc2) | (replace hc2 := deNT hc2) | (replace hc2 := deNN hc2) | (replace hc2 := bnT hc2) | (replace hc2 := bnF hc2) | skip
        have hyes : ptOk l := ⟨by omega, by simpa using hall⟩
        have hlt : binv l < 4096 := by have := binv_lt (l := l) l.length (Nat.le_refl _); rw [List.take_length, hyes.1] at this; exact this
        refine CW.skip ?_
        refine Fin.next ?_
        refine CW.seq ?_
        refine CW.region ?_
        refine RL.y rfl (y_mov (v := .int _ _) rfl) ?_
        refine RL.y rfl (y_asg (v := .int _ _) rfl) ?_
        refine RL.y rfl (y_asg rfl) ?_
        refine RL.nil ?_
        refine Fin.next ?_
        refine CW.ret ?_
        refine Fin.ret2 rfl (by conv => lhs; whnf) (by conv => lhs; whnf) ?_
        exact ⟨_, rfl, by rw [rpV, rpC, if_pos hyes, if_pos hyes, List.take_length, Nat.mod_eq_of_lt hlt], rfl⟩

theorem specCountBlanks_any {w : World} {a : Int} :
    Does Try.prog 19 #[.int .i64 a] w (fun r w' => r = .tuple #[.int .i64 (cbV a), .int .i64 (cbC a)] ∧ w = w') := by
  refine enter Try.func19 rfl 18 Try.ntmps19 rfl (by kernel_rfl) ?_
  refine CW.seq ?_
  refine CW.region ?_
  refine RL.y rfl (y_asg rfl) ?_
  refine RL.y rfl (y_asg rfl) ?_
  refine RL.nil ?_
  refine Fin.next ?_
  refine CW.seq ?_
  refine CW.seq ?_
  refine CW.region ?_
  refine RL.y rfl (y_mov (v := .int _ _) rfl) ?_
  refine RL.call rfl (l06Profile_any) ?_
  rintro r w3 ⟨rfl, rfl⟩
  refine RL.y rfl (y_not rfl) ?_
  refine RL.nil ?_
  refine Fin.next ?_
  refine CW.cond rfl rfl (fun hc => ?_) (fun hc => ?_)
  · with_reducible first | (replace hc := deNF hc) | (replace hc := of_decide_eq_true hc) | (replace hc := of_decide_eq_false hc) | (replace hc := deNT hc) | (replace hc := deNN hc) | (replace hc := bnT hc) | (replace hc := bnF hc) | skip
    refine CW.seq ?_
    refine CW.region ?_
    refine RL.y rfl (y_asg rfl) ?_
    refine RL.y rfl (y_asg rfl) ?_
    refine RL.nil ?_
    refine Fin.next ?_
    refine CW.ret ?_
    refine Fin.thenRet ?_
    refine Fin.ret2 rfl (by conv => lhs; whnf) (by conv => lhs; whnf) ?_
    exact ⟨_, rfl, by simp [cbV, cbC, hc], rfl⟩
  · with_reducible first | (replace hc := deNF hc) | (replace hc := of_decide_eq_true hc) | (replace hc := of_decide_eq_false hc) | (replace hc := deNT hc) | (replace hc := deNN hc) | (replace hc := bnT hc) | (replace hc := bnF hc) | skip
    obtain ⟨m, rfl, hm⟩ := prof_cast hc
    refine CW.skip ?_
    refine Fin.next ?_
    refine CW.seq ?_
    refine CW.region ?_
    refine RL.y rfl (y_asg rfl) ?_
    refine RL.nil ?_
    refine Fin.next ?_
    refine CW.seq ?_
    refine CW.block ?_
    refine CW.loop (fun q E w' => ∃ j : Nat, q = 12 - j ∧ j ≤ 12 ∧ agrees E [(0, .int .i64 ((m / 2 ^ j : Nat) : Int)), (4, .int .i64 ((2 ^ cbits m j : Nat) : Int))] ∧ w = w') _ (⟨0, rfl, by omega, ⟨by rw [Nat.pow_zero, Nat.div_one]; rfl, rfl, trivial⟩, rfl⟩) ?_
    · rintro q E w2 ⟨j, rfl, hj, hag, rfl⟩
      refine CW.re _ hag rfl ?_
      have hd : m / 2 ^ j ≤ m := Nat.div_le_self _ _
      have hdd : m / 2 ^ (j + 1) = m / 2 ^ j / 2 := by rw [Nat.pow_succ, Nat.div_div_eq_div_mul]
      have hp := pow_cbits_le m j hj
      have htb := @Nat.testBit_eq_decide_div_mod_eq j m
      have hlt := @lt12 m j hm hj
      have h0p := @lt_pow m j
      generalize hD : m / 2 ^ j = D at hd hdd htb hlt h0p hag ⊢
      refine CW.seq ?_
      refine CW.seq ?_
      refine CW.region ?_
      refine RL.y rfl (y_mov (v := .int _ _) rfl) ?_
      refine RL.y rfl (y_gt rfl rfl) ?_
      refine RL.nil ?_
      refine Fin.next ?_
      refine CW.cond rfl rfl (fun hc1 => ?_) (fun hc1 => ?_)
      · with_reducible first | (replace hc1 := deNF hc1) | (replace hc1 := of_decide_eq_true hc1) | (replace hc1 := of_decide_eq_false hc1) | (replace hc1 := deNT hc1) | (replace hc1 := deNN hc1) | (replace hc1 := bnT hc1) | (replace hc1 := bnF hc1) | skip
        have hj12 : j < 12 := hlt (by omega)
        refine CW.skip ?_
        refine Fin.next ?_
        refine CW.seq ?_
        refine CW.block ?_
        refine CW.seq ?_
        refine CW.region ?_
        refine RL.y rfl (y_mov (v := .int _ _) rfl) ?_
        refine RL.y rfl (y_rem rfl rfl (by omega) (IntWalk.rem_in _ _ (by omega))) ?_
        refine RL.y rfl (y_eq rfl rfl) ?_
        refine RL.nil ?_
        refine Fin.next ?_
        refine CW.cond rfl rfl (fun hc2 => ?_) (fun hc2 => ?_)
        · with_reducible first | (replace hc2 := deNF hc2) | (replace hc2 := of_decide_eq_true hc2) | (replace hc2 := of_decide_eq_false hc2) | (replace hc2 := deNT hc2) | (replace hc2 := deNN hc2) | (replace hc2 := bnT hc2) | (replace hc2 := bnF hc2) | skip
          have hb : m.testBit j = true := by rw [htb]; exact decide_eq_true (by omega)
          have hQ : 2 ^ cbits m (j + 1) = 2 * 2 ^ cbits m j := by rw [cbits_yes hb, Nat.pow_succ]; omega
          generalize hq : 2 ^ cbits m j = Q at hp hQ ⊢
          refine CW.region ?_
          refine RL.y rfl (y_mov (v := .int _ _) rfl) ?_
          refine RL.y rfl (y_mul rfl rfl (IntWalk.i64_in _ (by omega))) ?_
          refine RL.y rfl (y_asg (v := .int _ _) rfl) ?_
          refine RL.nil ?_
          refine Fin.blockNormal ?_
          refine Fin.next ?_
          refine CW.region ?_
          refine RL.y rfl (y_mov (v := .int _ _) rfl) ?_
          refine RL.y rfl (y_quo rfl rfl (by omega) (half (by omega) hdd)) ?_
          refine RL.y rfl (y_asg (v := .int _ _) rfl) ?_
          refine RL.nil ?_
          refine Fin.le ?_
          exact ⟨12 - (j + 1), by omega, j + 1, rfl, hj12, ⟨rfl, by rw [hQ]; rfl, trivial⟩, rfl⟩
        · with_reducible first | (replace hc2 := deNF hc2) | (replace hc2 := of_decide_eq_true hc2) | (replace hc2 := of_decide_eq_false hc2) | (replace hc2 := deNT hc2) | (replace hc2 := deNN hc2) | (replace hc2 := bnT hc2) | (replace hc2 := bnF hc2) | skip
          have hb : m.testBit j = false := by rw [htb]; exact decide_eq_false (by omega)
          refine CW.skip ?_
          refine Fin.blockNormal ?_
          refine Fin.next ?_
          refine CW.region ?_
          refine RL.y rfl (y_mov (v := .int _ _) rfl) ?_
          refine RL.y rfl (y_quo rfl rfl (by omega) (half (by omega) hdd)) ?_
          refine RL.y rfl (y_asg (v := .int _ _) rfl) ?_
          refine RL.nil ?_
          refine Fin.le ?_
          exact ⟨12 - (j + 1), by omega, j + 1, rfl, hj12, ⟨rfl, by rw [cbits_no hb]; rfl, trivial⟩, rfl⟩
      · with_reducible first | (replace hc1 := deNF hc1) | (replace hc1 := of_decide_eq_true hc1) | (replace hc1 := of_decide_eq_false hc1) | (replace hc1 := deNT hc1) | (replace hc1 := deNN hc1) | (replace hc1 := bnT hc1) | (replace hc1 := bnF hc1) | skip
        have hlt2 : m < 2 ^ j := h0p (by omega)
        have he : cbits m 12 = cbits m j := by rw [show 12 = j + (12 - j) from by omega]; exact cbits_up hlt2 _
        refine CW.exit ?_
        refine Fin.thenExit ?_
        refine Fin.thenExit ?_
        refine Fin.blockHit ?_
        refine Fin.next ?_
        refine CW.seq ?_
        refine CW.region ?_
        refine RL.y rfl (y_mov (v := .int _ _) rfl) ?_
        refine RL.y rfl (y_asg (v := .int _ _) rfl) ?_
        refine RL.y rfl (y_asg rfl) ?_
        refine RL.nil ?_
        refine Fin.next ?_
        refine CW.ret ?_
        refine Fin.ret2 rfl (by conv => lhs; whnf) (by conv => lhs; whnf) ?_
        exact ⟨_, rfl, by rw [cbV, cbC, if_pos hc, if_pos hc, Int.toNat_natCast, he], rfl⟩

theorem OnesCount64_any {w : World} {m : Nat} (hm : m < 4096) :
    Does Try.prog 48 #[.int .u64 (m : Int)] w (fun r w' => r = .int .i64 ((cbits m 12 : Nat) : Int) ∧ w = w') := by
  have b1 := o1_le m
  have b2 := o2_le (o1 m)
  have b3 := o3_le (o2 (o1 m))
  have hfin := oc_eq hm
  unfold oc at hfin
  have d1 := Nat.div_le_self m (2 ^ 1)
  refine enter Try.func48 rfl 35 Try.ntmps48 rfl (by kernel_rfl) ?_
  refine CW.seq ?_
  refine CW.region ?_
  refine RL.y rfl (y_asg rfl) ?_
  refine RL.nil ?_
  refine Fin.next ?_
  refine CW.seq ?_
  refine CW.region ?_
  refine RL.y rfl (y_mov (v := .int _ _) rfl) ?_
  refine RL.y rfl (y_shr rfl rfl (by omega) (u64shr m 1 (by omega))) ?_
  refine RL.y rfl (y_and rfl rfl (u64and (a := m / 2 ^ 1) (b := 6148914691236517205) (by omega) (by omega))) ?_
  refine RL.y rfl (y_mov (v := .int _ _) rfl) ?_
  refine RL.y rfl (y_and rfl rfl (u64and (a := m) (b := 6148914691236517205) (by omega) (by omega))) ?_
  refine RL.y rfl (y_add rfl rfl (u64add (show o1 m < _ by omega))) ?_
  refine RL.y rfl (y_asg (v := .int _ _) rfl) ?_
  refine RL.nil ?_
  refine Fin.next ?_
  refine CW.re [(0, .int .u64 ((o1 m : Nat) : Int))] ⟨rfl, trivial⟩ rfl ?_
  refine CW.seq ?_
  generalize o1 m = m1 at b1 b2 b3 hfin ⊢
  have d2 := Nat.div_le_self m1 (2 ^ 2)
  refine CW.region ?_
  refine RL.y rfl (y_mov (v := .int _ _) rfl) ?_
  refine RL.y rfl (y_shr rfl rfl (by omega) (u64shr m1 2 (by omega))) ?_
  refine RL.y rfl (y_and rfl rfl (u64and (a := m1 / 2 ^ 2) (b := 3689348814741910323) (by omega) (by omega))) ?_
  refine RL.y rfl (y_mov (v := .int _ _) rfl) ?_
  refine RL.y rfl (y_and rfl rfl (u64and (a := m1) (b := 3689348814741910323) (by omega) (by omega))) ?_
  refine RL.y rfl (y_add rfl rfl (u64add (show o2 m1 < _ by omega))) ?_
  refine RL.y rfl (y_asg (v := .int _ _) rfl) ?_
  refine RL.nil ?_
  refine Fin.next ?_
  refine CW.re [(0, .int .u64 ((o2 m1 : Nat) : Int))] ⟨rfl, trivial⟩ rfl ?_
  refine CW.seq ?_
  generalize o2 m1 = m2 at b2 b3 hfin ⊢
  have d3 : m2 / 2 ^ 4 ≤ m2 / 16 := Nat.le_refl _
  refine CW.region ?_
  refine RL.y rfl (y_mov (v := .int _ _) rfl) ?_
  refine RL.y rfl (y_shr rfl rfl (by omega) (u64shr m2 4 (by omega))) ?_
  refine RL.y rfl (y_mov (v := .int _ _) rfl) ?_
  refine RL.y rfl (y_add rfl rfl (u64add (by omega))) ?_
  refine RL.y rfl (y_and rfl rfl (u64and (a := m2 / 2 ^ 4 + m2) (b := 1085102592571150095) (by omega) (by omega))) ?_
  refine RL.y rfl (y_asg (v := .int _ _) rfl) ?_
  refine RL.nil ?_
  refine Fin.next ?_
  refine CW.re [(0, .int .u64 ((o3 m2 : Nat) : Int))] ⟨rfl, trivial⟩ rfl ?_
  refine CW.seq ?_
  generalize o3 m2 = m3 at b3 hfin ⊢
  have d4 : m3 / 2 ^ 8 ≤ m3 / 256 := Nat.le_refl _
  have b4 : o4 m3 ≤ 1100000000000000000 := by unfold o4; omega
  refine CW.region ?_
  refine RL.y rfl (y_mov (v := .int _ _) rfl) ?_
  refine RL.y rfl (y_mov (v := .int _ _) rfl) ?_
  refine RL.y rfl (y_shr rfl rfl (by omega) (u64shr m3 8 (by omega))) ?_
  refine RL.y rfl (y_add rfl rfl (u64add (show o4 m3 < _ by omega))) ?_
  refine RL.y rfl (y_asg (v := .int _ _) rfl) ?_
  refine RL.nil ?_
  refine Fin.next ?_
  refine CW.re [(0, .int .u64 ((o4 m3 : Nat) : Int))] ⟨rfl, trivial⟩ rfl ?_
  refine CW.seq ?_
  generalize o4 m3 = m4 at b4 hfin ⊢
  have d5 : m4 / 2 ^ 16 ≤ m4 / 65536 := Nat.le_refl _
  have b5 : o5 m4 ≤ 1200000000000000000 := by unfold o5; omega
  refine CW.region ?_
  refine RL.y rfl (y_mov (v := .int _ _) rfl) ?_
  refine RL.y rfl (y_mov (v := .int _ _) rfl) ?_
  refine RL.y rfl (y_shr rfl rfl (by omega) (u64shr m4 16 (by omega))) ?_
  refine RL.y rfl (y_add rfl rfl (u64add (show o5 m4 < _ by omega))) ?_
  refine RL.y rfl (y_asg (v := .int _ _) rfl) ?_
  refine RL.nil ?_
  refine Fin.next ?_
  refine CW.re [(0, .int .u64 ((o5 m4 : Nat) : Int))] ⟨rfl, trivial⟩ rfl ?_
  refine CW.seq ?_
  generalize o5 m4 = m5 at b5 hfin ⊢
  have d6 : m5 / 2 ^ 32 ≤ m5 / 4294967296 := Nat.le_refl _
  have b6 : o6 m5 ≤ 1300000000000000000 := by unfold o6; omega
  refine CW.region ?_
  refine RL.y rfl (y_mov (v := .int _ _) rfl) ?_
  refine RL.y rfl (y_mov (v := .int _ _) rfl) ?_
  refine RL.y rfl (y_shr rfl rfl (by omega) (u64shr m5 32 (by omega))) ?_
  refine RL.y rfl (y_add rfl rfl (u64add (show o6 m5 < _ by omega))) ?_
  refine RL.y rfl (y_asg (v := .int _ _) rfl) ?_
  refine RL.nil ?_
  refine Fin.next ?_
  refine CW.re [(0, .int .u64 ((o6 m5 : Nat) : Int))] ⟨rfl, trivial⟩ rfl ?_
  refine CW.seq ?_
  generalize o6 m5 = m6 at b6 hfin ⊢
  refine CW.region ?_
  refine RL.y rfl (y_mov (v := .int _ _) rfl) ?_
  refine RL.y rfl (y_conv ⟨_, Try.underlying51⟩ Try.underlying3 rfl (IntWalk.i64_in _ (by omega))) ?_
  refine RL.y rfl (y_and rfl rfl (bAnd_nat (a := m6) (b := 127) (by omega) (by omega))) ?_
  refine RL.y rfl (y_asg (v := .int _ _) rfl) ?_
  refine RL.nil ?_
  refine Fin.next ?_
  refine CW.ret ?_
  refine Fin.ret1 rfl (by conv => lhs; whnf) ?_
  exact ⟨_, rfl, by rw [← hfin], rfl⟩

theorem implCountBlanks_any {w : World} {a : Int} :
    Does Try.prog 20 #[.int .i64 a] w (fun r w' => r = .tuple #[.int .i64 (cbV a), .int .i64 (cbC a)] ∧ w = w') := by
  refine enter Try.func20 rfl 11 Try.ntmps20 rfl (by kernel_rfl) ?_
  refine CW.seq ?_
  refine CW.region ?_
  refine RL.y rfl (y_asg rfl) ?_
  refine RL.y rfl (y_asg rfl) ?_
  refine RL.nil ?_
  refine Fin.next ?_
  refine CW.seq ?_
  refine CW.seq ?_
  refine CW.region ?_
  refine RL.y rfl (y_mov (v := .int _ _) rfl) ?_
  refine RL.call rfl (isProfile_any) ?_
  rintro r w3 ⟨rfl, rfl⟩
  refine RL.y rfl (y_not rfl) ?_
  refine RL.nil ?_
  refine Fin.next ?_
  refine CW.cond rfl rfl (fun hc => ?_) (fun hc => ?_)
  · with_reducible first | (replace hc := deNF hc) | (replace hc := of_decide_eq_true hc) | (replace hc := of_decide_eq_false hc) | (replace hc := deNT hc) | (replace hc := deNN hc) | (replace hc := bnT hc) | (replace hc := bnF hc) | skip
    refine CW.seq ?_
    refine CW.region ?_
    refine RL.y rfl (y_asg rfl) ?_
    refine RL.y rfl (y_asg rfl) ?_
    refine RL.nil ?_
    refine Fin.next ?_
    refine CW.ret ?_
    refine Fin.thenRet ?_
    refine Fin.ret2 rfl (by conv => lhs; whnf) (by conv => lhs; whnf) ?_
    exact ⟨_, rfl, by simp [cbV, cbC, hc], rfl⟩
  · with_reducible first | (replace hc := deNF hc) | (replace hc := of_decide_eq_true hc) | (replace hc := of_decide_eq_false hc) | (replace hc := deNT hc) | (replace hc := deNN hc) | (replace hc := bnT hc) | (replace hc := bnF hc) | skip
    obtain ⟨m, rfl, hm⟩ := prof_cast hc
    refine CW.skip ?_
    refine Fin.next ?_
    refine CW.seq ?_
    refine CW.region ?_
    refine RL.y rfl (y_mov (v := .int _ _) rfl) ?_
    refine RL.y rfl (y_conv ⟨_, Try.underlying2⟩ Try.underlying51 rfl (IntWalk.u64_in _ (by omega))) ?_
    refine RL.call rfl (OnesCount64_any hm) ?_
    rintro r w3 ⟨rfl, rfl⟩
    refine RL.y rfl (y_shl rfl rfl (by omega) (shl_one (cbits_le m 12))) ?_
    refine RL.y rfl (y_asg (v := .int _ _) rfl) ?_
    refine RL.y rfl (y_asg rfl) ?_
    refine RL.nil ?_
    refine Fin.next ?_
    refine CW.ret ?_
    refine Fin.ret2 rfl (by conv => lhs; whnf) (by conv => lhs; whnf) ?_
    exact ⟨_, rfl, by rw [cbV, cbC, if_pos hc, if_pos hc, Int.toNat_natCast], rfl⟩
end Go.Proofs.Ytgfaimkbedbanaa
