/-
  The codes; free places; which worn keys may, and which surely open.
-/
import Derived.Test.YtaepdknmagaokaaFWea2
namespace Go.Proofs.Ytaepdknmagaokaa
open B Go.RowKit

/-- The codes of the program. -/
def kcC (q : Mk) (ks : List (List Int)) : Int := if ¬ mkOk q then 1 else if ∀ k ∈ ks, key q k then 0 else 2
def lcC (q : Mk) (ls : List (List (List Int))) : Int := if mkOk q ∧ ∀ l ∈ ls, lckS q l then 0 else 1
def wcC (q : Mk) (ls : List (List (List Int))) (ks : List (List Int)) (a t : Int) : Int := if lcC q ls ≠ 0 then 1 else if ¬ nums a t then 2 else kcC q ks
theorem lcC_two (q : Mk) (ls : List (List (List Int))) : lcC q ls = 0 ∨ lcC q ls = 1 := by unfold lcC; split; exact .inl rfl; exact .inr rfl
theorem lcC_one {q : Mk} {ss : List (List Int)} : lcC q [ss] = 0 ↔ lck q ss := by
  unfold lcC lck
  by_cases h : mkOk q ∧ lckS q ss
  · rw [if_pos ⟨h.1, fun l hl => by
      have : l = ss := by simpa using hl
      subst this; exact h.2⟩]
    exact ⟨fun _ => h, fun _ => rfl⟩
  · rw [if_neg (fun e => h ⟨e.1, e.2 _ (by simp)⟩)]
    exact ⟨fun e => by omega, fun e => absurd e h⟩
theorem lcC_nil {q : Mk} : lcC q [] = 0 ↔ mkOk q := by
  unfold lcC
  by_cases h : mkOk q
  · rw [if_pos ⟨h, fun l hl => by simp at hl⟩]; exact ⟨fun _ => h, fun _ => rfl⟩
  · rw [if_neg (fun e => h e.1)]; exact ⟨fun e => by omega, fun e => absurd e h⟩
theorem wcC_key {q : Mk} {ss : List (List Int)} {cs : List Int} {a t : Int} : wcC q [ss] [cs] a t = moC q ss cs a t := by
  unfold wcC moC kcC
  have h1 := lcC_one (q := q) (ss := ss)
  by_cases hl : lck q ss
  · rw [if_neg (by have := h1.2 hl; omega), if_neg (not_not_intro hl)]
    by_cases hn : nums a t
    · rw [if_neg (not_not_intro hn), if_neg (not_not_intro hl.1)]
      by_cases hk : key q cs
      · rw [if_pos (by simpa using hk), if_pos ⟨hn, hk⟩]
      · rw [if_neg (by simpa using hk), if_neg (fun h => hk h.2)]
    · rw [if_pos hn, if_neg (fun h => hn h.1)]
  · rw [if_pos (fun h => hl (h1.1 h)), if_pos hl]
theorem wcC_lock {q : Mk} {ss : List (List Int)} {a t : Int} : wcC q [ss] [] a t = loC q ss a t := by
  unfold wcC loC kcC
  have h1 := lcC_one (q := q) (ss := ss)
  by_cases hl : lck q ss
  · rw [if_neg (by have := h1.2 hl; omega), if_neg (not_not_intro hl)]
    by_cases hn : nums a t
    · rw [if_neg (not_not_intro hn), if_neg (not_not_intro hl.1), if_pos (by simp), if_pos hn]
    · rw [if_pos hn, if_neg hn]
  · rw [if_pos (fun h => hl (h1.1 h)), if_pos hl]
theorem wcC_none {q : Mk} {cs : List Int} {a t : Int} : wcC q [] [cs] a t = nbC q cs a t := by
  unfold wcC nbC kcC
  have h1 := lcC_nil (q := q)
  by_cases hm : mkOk q
  · rw [if_neg (by have := h1.2 hm; omega), if_neg (not_not_intro hm)]
    by_cases hn : nums a t
    · rw [if_neg (not_not_intro hn), if_neg (not_not_intro hm)]
      by_cases hk : key q cs
      · rw [if_pos (by simpa using hk), if_pos ⟨hn, hk⟩]
      · rw [if_neg (by simpa using hk), if_neg (fun h => hk h.2)]
    · rw [if_pos hn]
      rw [if_neg (fun h : nums a t ∧ key q cs => hn h.1), if_neg (not_not_intro hm)]
  · rw [if_pos (fun h => hm (h1.1 h)), if_pos hm]

theorem keysCode_any {w : World} {q : Mk} {v : Value} {ks : List (List Int)} (hv : RdSS w v ks) :
    Does Try.prog 87 #[mkA q, v] w (fun r w' => r = .int .i64 (kcC q ks) ∧ Ext w w') := by
  obtain ⟨cs, hc⟩ := hv
  have hcl := hc.le
  refine enter Try.func87 rfl 21 Try.ntmps87 rfl (by kernel_rfl) ?_
  refine CW.seq ?_
  refine CW.region ?_
  refine RL.box (cs := [.int .i64 q.ch, .int .i64 q.dp, .int .i64 q.st, .int .i64 q.sm, .int .i64 q.le]) rfl rfl rfl (fun w1 hV hE1 => ?_)
  refine RL.y rfl (y_asg rfl) ?_
  refine RL.nil ?_
  refine Fin.next ?_
  refine CW.seq ?_
  refine CW.seq ?_
  refine CW.region ?_
  refine RL.y rfl (y_loads ag25 rfl (eqw (hV)) rfl) ?_
  refine RL.call rfl (implIsMaker_any) ?_
  rintro r w2 ⟨rfl, hE2⟩
  refine RL.y rfl (y_not rfl) ?_
  refine RL.nil ?_
  refine Fin.next ?_
  refine CW.cond rfl rfl (fun h1 => ?_) (fun h1 => ?_)
  · with_reducible first | (replace h1 := deNF h1) | (replace h1 := of_decide_eq_true h1) | (replace h1 := of_decide_eq_false h1) | (replace h1 := deNT h1) | (replace h1 := deNN h1) | (replace h1 := bnT h1) | (replace h1 := bnF h1) | skip
    refine CW.seq ?_
    refine CW.region ?_
    refine RL.y rfl (y_asg rfl) ?_
    refine RL.nil ?_
    refine Fin.next ?_
    refine CW.ret ?_
    refine Fin.thenRet ?_
    refine Fin.ret1 rfl (by conv => lhs; whnf) ?_
    exact ⟨_, rfl, by unfold kcC; rw [if_pos h1], hE1.trans hE2⟩
  · with_reducible first | (replace h1 := deNF h1) | (replace h1 := of_decide_eq_true h1) | (replace h1 := of_decide_eq_false h1) | (replace h1 := deNT h1) | (replace h1 := deNN h1) | (replace h1 := bnT h1) | (replace h1 := bnF h1) | skip
    have hE12 := hE1.trans hE2
    have hc2 := hc.ext hE12
    refine CW.skip ?_
    refine Fin.next ?_
    refine CW.seq ?_
    refine CW.seq ?_
    refine CW.region ?_
    refine RL.y rfl (y_mov (by conv => lhs; whnf)) ?_
    refine RL.y rfl (y_len sT26 hc.1 hc.2.1 rfl) ?_
    refine RL.y rfl (y_mov rfl) ?_
    refine RL.nil ?_
    refine Fin.next ?_
    refine CW.block ?_
    refine CW.loop (fun m E w' => ∃ k : Nat, m = ks.length - k ∧ k ≤ ks.length ∧ agrees E [(2, .pointer (some ⟨w.heap.size, 0, none⟩)), (10, v), (11, .int .i64 ks.length), (12, .int .i64 (k : Int))] ∧ (∀ r ∈ ks.take k, key q r) ∧ Ext w2 w') _ ⟨0, rfl, Nat.zero_le _, ⟨rfl, rfl, rfl, rfl, trivial⟩, by simp, Ext.refl _⟩ ?_
    · rintro m E w3 ⟨k, rfl, hkk, hagk, hall, hE3⟩
      refine CW.re _ hagk rfl ?_
      clear hagk
      refine CW.seq ?_
      refine CW.region ?_
      refine RL.y rfl (y_lt rfl rfl) ?_
      refine RL.nil ?_
      refine Fin.next ?_
      refine CW.seq ?_
      refine CW.cond rfl rfl (fun hck => ?_) (fun hck => ?_)
      · with_reducible first | (replace hck := deNF hck) | (replace hck := of_decide_eq_true hck) | (replace hck := of_decide_eq_false hck) | (replace hck := deNT hck) | (replace hck := deNN hck) | (replace hck := bnT hck) | (replace hck := bnF hck) | skip
        have hltk : k < ks.length := by omega
        refine CW.skip ?_
        refine Fin.next ?_
        refine CW.seq ?_
        refine CW.block ?_
        refine CW.seq ?_
        refine CW.region ?_
        refine RL.y rfl (y_ixa sT26 (eqw (hc2.1.ext hE3)) (k := k) (hc.lt hltk) rfl rfl) ?_
        refine RL.y rfl (y_load sc29 (eqw (hc2.1.ext hE3)) (hc.at hltk) rfl) ?_
        refine RL.y rfl (y_asg (by conv => lhs; whnf)) ?_
        refine RL.nil ?_
        refine Fin.next ?_
        refine CW.seq ?_
        refine CW.region ?_
        refine RL.y rfl (y_loads ag25 rfl (eqw ((hV.ext hE2).ext hE3)) rfl) ?_
        refine RL.y rfl (y_mov (by conv => lhs; whnf)) ?_
        refine RL.call rfl (isKey_any h1 ((hc2.row hltk).ext hE3)) ?_
        rintro r w4 ⟨rfl, hE4⟩
        refine RL.y rfl (y_not rfl) ?_
        refine RL.nil ?_
        refine Fin.next ?_
        refine CW.cond rfl rfl (fun h2 => ?_) (fun h2 => ?_)
        · with_reducible first | (replace h2 := deNF h2) | (replace h2 := of_decide_eq_true h2) | (replace h2 := of_decide_eq_false h2) | (replace h2 := deNT h2) | (replace h2 := deNN h2) | (replace h2 := bnT h2) | (replace h2 := bnF h2) | skip
          refine CW.seq ?_
          refine CW.region ?_
          refine RL.y rfl (y_asg rfl) ?_
          refine RL.nil ?_
          refine Fin.next ?_
          refine CW.ret ?_
          refine Fin.blockRet ?_
          refine Fin.thenRet ?_
          refine Fin.thenRet ?_
          refine Fin.blockRet ?_
          refine Fin.thenRet ?_
          refine Fin.ret1 rfl (by conv => lhs; whnf) ?_
          exact ⟨_, rfl, by unfold kcC; rw [if_neg (not_not_intro h1), if_neg (fun h => h2 (h _ (List.getElem_mem hltk)))], hE12.trans (hE3.trans hE4)⟩
        · with_reducible first | (replace h2 := deNF h2) | (replace h2 := of_decide_eq_true h2) | (replace h2 := of_decide_eq_false h2) | (replace h2 := deNT h2) | (replace h2 := deNN h2) | (replace h2 := bnT h2) | (replace h2 := bnF h2) | skip
          refine CW.skip ?_
          refine Fin.blockNormal ?_
          refine Fin.next ?_
          refine CW.region ?_
          refine RL.y rfl (y_add rfl rfl (IntWalk.i64_in _ (by omega))) ?_
          refine RL.y rfl (y_mov (v := .int _ _) rfl) ?_
          refine RL.nil ?_
          refine Fin.le ?_
          exact ⟨ks.length - (k + 1), by omega, k + 1, rfl, hltk, ⟨rfl, rfl, rfl, rfl, trivial⟩, all_snoc hltk hall h2, hE3.trans hE4⟩
      · with_reducible first | (replace hck := deNF hck) | (replace hck := of_decide_eq_true hck) | (replace hck := of_decide_eq_false hck) | (replace hck := deNT hck) | (replace hck := deNN hck) | (replace hck := bnT hck) | (replace hck := bnF hck) | skip
        obtain rfl : ks.length = k := by omega
        refine CW.exit ?_
        refine Fin.thenExit ?_
        refine Fin.thenExit ?_
        refine Fin.blockHit ?_
        refine Fin.next ?_
        refine CW.seq ?_
        refine CW.region ?_
        refine RL.y rfl (y_asg rfl) ?_
        refine RL.nil ?_
        refine Fin.next ?_
        refine CW.ret ?_
        refine Fin.ret1 rfl (by conv => lhs; whnf) ?_
        exact ⟨_, rfl, by unfold kcC; rw [if_neg (not_not_intro h1), if_pos (by simpa using hall)], hE12.trans hE3⟩

theorem locksCode_any {w : World} {q : Mk} {v : Value} {ls : List (List (List Int))} (hv : RdLs w v ls) :
    Does Try.prog 61 #[mkA q, v] w (fun r w' => r = .int .i64 (lcC q ls) ∧ Ext w w') := by
  obtain ⟨cs, hc, hcl, hr⟩ := hv
  have hcle := SV.le hc
  refine enter Try.func61 rfl 21 Try.ntmps61 rfl (by kernel_rfl) ?_
  refine CW.seq ?_
  refine CW.region ?_
  refine RL.box (cs := [.int .i64 q.ch, .int .i64 q.dp, .int .i64 q.st, .int .i64 q.sm, .int .i64 q.le]) rfl rfl rfl (fun w1 hV hE1 => ?_)
  refine RL.y rfl (y_asg rfl) ?_
  refine RL.nil ?_
  refine Fin.next ?_
  refine CW.seq ?_
  refine CW.seq ?_
  refine CW.region ?_
  refine RL.y rfl (y_loads ag25 rfl (eqw (hV)) rfl) ?_
  refine RL.call rfl (implIsMaker_any) ?_
  rintro r w2 ⟨rfl, hE2⟩
  refine RL.y rfl (y_not rfl) ?_
  refine RL.nil ?_
  refine Fin.next ?_
  refine CW.cond rfl rfl (fun h1 => ?_) (fun h1 => ?_)
  · with_reducible first | (replace h1 := deNF h1) | (replace h1 := of_decide_eq_true h1) | (replace h1 := of_decide_eq_false h1) | (replace h1 := deNT h1) | (replace h1 := deNN h1) | (replace h1 := bnT h1) | (replace h1 := bnF h1) | skip
    refine CW.seq ?_
    refine CW.region ?_
    refine RL.y rfl (y_asg rfl) ?_
    refine RL.nil ?_
    refine Fin.next ?_
    refine CW.ret ?_
    refine Fin.thenRet ?_
    refine Fin.ret1 rfl (by conv => lhs; whnf) ?_
    exact ⟨_, rfl, by unfold lcC; rw [if_neg (fun h => h1 h.1)], hE1.trans hE2⟩
  · with_reducible first | (replace h1 := deNF h1) | (replace h1 := of_decide_eq_true h1) | (replace h1 := of_decide_eq_false h1) | (replace h1 := deNT h1) | (replace h1 := deNN h1) | (replace h1 := bnT h1) | (replace h1 := bnF h1) | skip
    have hE12 := hE1.trans hE2
    refine CW.skip ?_
    refine Fin.next ?_
    refine CW.seq ?_
    refine CW.seq ?_
    refine CW.region ?_
    refine RL.y rfl (y_mov (by conv => lhs; whnf)) ?_
    refine RL.y rfl (y_lenL lT66 hc hcl rfl) ?_
    refine RL.y rfl (y_mov rfl) ?_
    refine RL.nil ?_
    refine Fin.next ?_
    refine CW.block ?_
    refine CW.loop (fun m E w' => ∃ k : Nat, m = ls.length - k ∧ k ≤ ls.length ∧ agrees E [(2, .pointer (some ⟨w.heap.size, 0, none⟩)), (10, v), (11, .int .i64 ls.length), (12, .int .i64 (k : Int))] ∧ (∀ r ∈ ls.take k, lckS q r) ∧ Ext w2 w') _ ⟨0, rfl, Nat.zero_le _, ⟨rfl, rfl, rfl, rfl, trivial⟩, by simp, Ext.refl _⟩ ?_
    · rintro m E w3 ⟨k, rfl, hkk, hagk, hall, hE3⟩
      refine CW.re _ hagk rfl ?_
      clear hagk
      refine CW.seq ?_
      refine CW.region ?_
      refine RL.y rfl (y_lt rfl rfl) ?_
      refine RL.nil ?_
      refine Fin.next ?_
      refine CW.seq ?_
      refine CW.cond rfl rfl (fun hck => ?_) (fun hck => ?_)
      · with_reducible first | (replace hck := deNF hck) | (replace hck := of_decide_eq_true hck) | (replace hck := of_decide_eq_false hck) | (replace hck := deNT hck) | (replace hck := deNN hck) | (replace hck := bnT hck) | (replace hck := bnF hck) | skip
        have hltk : k < ls.length := by omega
        have hE03 := hE12.trans hE3
        have hrk := hr k hltk
        rw [getD_lt hltk] at hrk
        refine CW.skip ?_
        refine Fin.next ?_
        refine CW.seq ?_
        refine CW.block ?_
        refine CW.seq ?_
        refine CW.region ?_
        refine RL.y rfl (y_ixL lT66 (eqw (hc.ext hE03)) (k := k) (by omega) rfl rfl) ?_
        refine RL.y rfl (y_ldL ag28 (eqw (hc.ext hE03)) ((show cs[k]? = some (cs.getD k undef) by simp [List.getD, List.getElem?_eq_getElem (show k < cs.length by omega)])) rfl) ?_
        refine RL.alloc rfl ze28 (fun w4 hW hE4 => ?_)
        refine RL.stores ag28 (hW) rfl rfl rfl rfl ((by obtain ⟨_, hh⟩ := hrk; simp only [List.all_cons, List.all_nil, Bool.and_true]; exact slice_one hh.1)) (fun w5 hW5 hg5 => ?_)
        replace hW5 : VR w5 w3.heap.size [cs.getD k undef] := hW5
        have hl3 := hW.lt
        have hE35 : Ext w3 w5 := hE4.grown hg5 (fun b hb => by simp only [Option.some.injEq] at hb; omega)
        refine RL.nil ?_
        refine Fin.next ?_
        refine CW.seq ?_
        refine CW.region ?_
        refine RL.y rfl (y_loads ag25 rfl (eqw (((hV.ext hE2).ext hE3).ext hE35)) rfl) ?_
        refine RL.y rfl (y_loads ag28 rfl (eqw (hW5)) rfl) ?_
        refine RL.call rfl (isLock_any ⟨_, rfl, (hrk.ext hE03).ext hE35⟩) ?_
        rintro r w6 ⟨rfl, hE6⟩
        refine RL.y rfl (y_not rfl) ?_
        refine RL.nil ?_
        refine Fin.next ?_
        refine CW.cond rfl rfl (fun h2 => ?_) (fun h2 => ?_)
        · with_reducible first | (replace h2 := deNF h2) | (replace h2 := of_decide_eq_true h2) | (replace h2 := of_decide_eq_false h2) | (replace h2 := deNT h2) | (replace h2 := deNN h2) | (replace h2 := bnT h2) | (replace h2 := bnF h2) | skip
          refine CW.seq ?_
          refine CW.region ?_
          refine RL.y rfl (y_asg rfl) ?_
          refine RL.nil ?_
          refine Fin.next ?_
          refine CW.ret ?_
          refine Fin.blockRet ?_
          refine Fin.thenRet ?_
          refine Fin.thenRet ?_
          refine Fin.blockRet ?_
          refine Fin.thenRet ?_
          refine Fin.ret1 rfl (by conv => lhs; whnf) ?_
          exact ⟨_, rfl, by unfold lcC; rw [if_neg (fun h => h2 (h.2 _ (List.getElem_mem hltk)))], (hE03.trans hE35).trans hE6⟩
        · with_reducible first | (replace h2 := deNF h2) | (replace h2 := of_decide_eq_true h2) | (replace h2 := of_decide_eq_false h2) | (replace h2 := deNT h2) | (replace h2 := deNN h2) | (replace h2 := bnT h2) | (replace h2 := bnF h2) | skip
          refine CW.skip ?_
          refine Fin.blockNormal ?_
          refine Fin.next ?_
          refine CW.region ?_
          refine RL.y rfl (y_add rfl rfl (IntWalk.i64_in _ (by omega))) ?_
          refine RL.y rfl (y_mov (v := .int _ _) rfl) ?_
          refine RL.nil ?_
          refine Fin.le ?_
          exact ⟨ls.length - (k + 1), by omega, k + 1, rfl, hltk, ⟨rfl, rfl, rfl, rfl, trivial⟩, all_snoc hltk hall h2, (hE3.trans hE35).trans hE6⟩
      · with_reducible first | (replace hck := deNF hck) | (replace hck := of_decide_eq_true hck) | (replace hck := of_decide_eq_false hck) | (replace hck := deNT hck) | (replace hck := deNN hck) | (replace hck := bnT hck) | (replace hck := bnF hck) | skip
        obtain rfl : ls.length = k := by omega
        refine CW.exit ?_
        refine Fin.thenExit ?_
        refine Fin.thenExit ?_
        refine Fin.blockHit ?_
        refine Fin.next ?_
        refine CW.seq ?_
        refine CW.region ?_
        refine RL.y rfl (y_asg rfl) ?_
        refine RL.nil ?_
        refine Fin.next ?_
        refine CW.ret ?_
        refine Fin.ret1 rfl (by conv => lhs; whnf) ?_
        exact ⟨_, rfl, by unfold lcC; rw [if_pos ⟨h1, by simpa using hall⟩], hE12.trans hE3⟩

theorem wearCode_any {w : World} {q : Mk} {v u : Value} {ls : List (List (List Int))} {ks : List (List Int)} {a t : Int} (hv : RdLs w v ls) (hu : RdSS w u ks) :
    Does Try.prog 49 #[mkA q, v, u, .int .i64 a, .int .i64 t] w (fun r w' => r = .int .i64 (wcC q ls ks a t) ∧ Ext w w') := by
  refine enter Try.func49 rfl 29 Try.ntmps49 rfl (by kernel_rfl) ?_
  refine CW.seq ?_
  refine CW.region ?_
  refine RL.box (cs := [.int .i64 q.ch, .int .i64 q.dp, .int .i64 q.st, .int .i64 q.sm, .int .i64 q.le]) rfl rfl rfl (fun w1 hV hE1 => ?_)
  refine RL.y rfl (y_asg rfl) ?_
  refine RL.nil ?_
  refine Fin.next ?_
  refine CW.seq ?_
  refine CW.seq ?_
  refine CW.region ?_
  refine RL.y rfl (y_loads ag25 rfl (eqw (hV)) rfl) ?_
  refine RL.y rfl (y_mov (by conv => lhs; whnf)) ?_
  refine RL.call rfl (locksCode_any (hv.ext hE1)) ?_
  rintro r w2 ⟨rfl, hE2⟩
  have hE12 := hE1.trans hE2
  have h01 := lcC_two q ls
  refine RL.y rfl (y_asg (v := .int _ _) rfl) ?_
  refine RL.nil ?_
  refine Fin.next ?_
  refine CW.seq ?_
  refine CW.region ?_
  refine RL.y rfl (y_mov (v := .int _ _) rfl) ?_
  refine RL.y rfl (y_ne rfl rfl) ?_
  refine RL.nil ?_
  refine Fin.next ?_
  refine CW.cond rfl rfl (fun h1 => ?_) (fun h1 => ?_)
  · with_reducible first | (replace h1 := deNF h1) | (replace h1 := of_decide_eq_true h1) | (replace h1 := of_decide_eq_false h1) | (replace h1 := deNT h1) | (replace h1 := deNN h1) | (replace h1 := bnT h1) | (replace h1 := bnF h1) | skip
    refine CW.seq ?_
    refine CW.region ?_
    refine RL.y rfl (y_mov (v := .int _ _) rfl) ?_
    refine RL.y rfl (y_asg (v := .int _ _) rfl) ?_
    refine RL.nil ?_
    refine Fin.next ?_
    refine CW.ret ?_
    refine Fin.thenRet ?_
    refine Fin.ret1 rfl (by conv => lhs; whnf) ?_
    exact ⟨_, rfl, by unfold wcC; rw [if_pos h1]; congr 1; omega, hE12⟩
  · with_reducible first | (replace h1 := deNF h1) | (replace h1 := of_decide_eq_true h1) | (replace h1 := of_decide_eq_false h1) | (replace h1 := deNT h1) | (replace h1 := deNN h1) | (replace h1 := bnT h1) | (replace h1 := bnF h1) | skip
    refine CW.skip ?_
    refine Fin.next ?_
    refine CW.seq ?_
    refine CW.seq ?_
    refine CW.region ?_
    refine RL.y rfl (y_mov (v := .int _ _) rfl) ?_
    refine RL.call rfl (within_any) ?_
    rintro r w3 ⟨rfl, rfl⟩
    refine RL.y rfl (y_not rfl) ?_
    refine RL.y rfl (y_mov (v := .bool _) rfl) ?_
    refine RL.split (t := 21) rfl rfl (fun h2 => ?_) (fun h2 => ?_)
    · with_reducible first | (replace h2 := deNF h2) | (replace h2 := of_decide_eq_true h2) | (replace h2 := of_decide_eq_false h2) | (replace h2 := deNT h2) | (replace h2 := deNN h2) | (replace h2 := bnT h2) | (replace h2 := bnF h2) | skip
      refine RL.pass (t := 21) rfl rfl rfl rfl ?_
      refine RL.pass (t := 21) rfl rfl rfl rfl ?_
      refine RL.pass (t := 21) rfl rfl rfl rfl ?_
      refine RL.y rfl (y_pickT (v := .bool _) rfl rfl) ?_
      refine RL.nil ?_
      refine Fin.next ?_
      refine CW.condT rfl rfl ?_
      refine CW.seq ?_
      refine CW.region ?_
      refine RL.y rfl (y_asg rfl) ?_
      refine RL.nil ?_
      refine Fin.next ?_
      refine CW.ret ?_
      refine Fin.thenRet ?_
      refine Fin.ret1 rfl (by conv => lhs; whnf) ?_
      exact ⟨_, rfl, by unfold wcC; rw [if_neg (by omega), if_pos (fun h => h2 h.1)], hE12⟩
    · with_reducible first | (replace h2 := deNF h2) | (replace h2 := of_decide_eq_true h2) | (replace h2 := of_decide_eq_false h2) | (replace h2 := deNT h2) | (replace h2 := deNN h2) | (replace h2 := bnT h2) | (replace h2 := bnF h2) | skip
      refine RL.take (t := 21) rfl rfl rfl ?_
      refine RL.y rfl (y_mov (v := .int _ _) rfl) ?_
      refine RL.take (t := 21) rfl rfl rfl ?_
      refine RL.call rfl (within_any) ?_
      rintro r w3 ⟨rfl, rfl⟩
      refine RL.take (t := 21) rfl rfl rfl ?_
      refine RL.y rfl (y_not rfl) ?_
      refine RL.y rfl (y_pickF (v := .bool _) rfl rfl) ?_
      refine RL.nil ?_
      refine Fin.next ?_
      refine CW.cond rfl rfl (fun h3 => ?_) (fun h3 => ?_)
      · with_reducible first | (replace h3 := deNF h3) | (replace h3 := of_decide_eq_true h3) | (replace h3 := of_decide_eq_false h3) | (replace h3 := deNT h3) | (replace h3 := deNN h3) | (replace h3 := bnT h3) | (replace h3 := bnF h3) | skip
        refine CW.seq ?_
        refine CW.region ?_
        refine RL.y rfl (y_asg rfl) ?_
        refine RL.nil ?_
        refine Fin.next ?_
        refine CW.ret ?_
        refine Fin.thenRet ?_
        refine Fin.ret1 rfl (by conv => lhs; whnf) ?_
        exact ⟨_, rfl, by unfold wcC; rw [if_neg (by omega), if_pos (fun h => h3 h.2)], hE12⟩
      · with_reducible first | (replace h3 := deNF h3) | (replace h3 := of_decide_eq_true h3) | (replace h3 := of_decide_eq_false h3) | (replace h3 := deNT h3) | (replace h3 := deNN h3) | (replace h3 := bnT h3) | (replace h3 := bnF h3) | skip
        refine CW.skip ?_
        refine Fin.next ?_
        refine CW.seq ?_
        refine CW.region ?_
        refine RL.y rfl (y_loads ag25 rfl (eqw (hV.ext hE2)) rfl) ?_
        refine RL.y rfl (y_mov (by conv => lhs; whnf)) ?_
        refine RL.call rfl (keysCode_any (hu.ext hE12)) ?_
        rintro r w4 ⟨rfl, hE4⟩
        refine RL.y rfl (y_asg (v := .int _ _) rfl) ?_
        refine RL.nil ?_
        refine Fin.next ?_
        refine CW.ret ?_
        refine Fin.ret1 rfl (by conv => lhs; whnf) ?_
        exact ⟨_, rfl, by unfold wcC; rw [if_neg (by omega), if_neg (not_not_intro ⟨h2, h3⟩)], hE12.trans hE4⟩

theorem l08Numbers_any {w : World} {a t : Int} :
    Does Try.prog 74 #[.int .i64 a, .int .i64 t] w (fun r w' => r = .bool (decide (nums a t)) ∧ w = w') := by
  refine enter Try.func74 rfl 11 Try.ntmps74 rfl (by kernel_rfl) ?_
  refine CW.seq ?_
  refine CW.region ?_
  refine RL.y rfl (y_asg rfl) ?_
  refine RL.nil ?_
  refine Fin.next ?_
  refine CW.seq ?_
  refine CW.region ?_
  refine RL.y rfl (y_mov (v := .int _ _) rfl) ?_
  refine RL.call rfl (l01In_any) ?_
  rintro r w2 ⟨rfl, rfl⟩
  refine RL.y rfl (y_mov (v := .bool _) rfl) ?_
  refine RL.split (t := 7) rfl rfl (fun h1 => ?_) (fun h1 => ?_)
  · with_reducible first | (replace h1 := deNF h1) | (replace h1 := of_decide_eq_true h1) | (replace h1 := of_decide_eq_false h1) | (replace h1 := deNT h1) | (replace h1 := deNN h1) | (replace h1 := bnT h1) | (replace h1 := bnF h1) | skip
    refine RL.take (t := 7) rfl rfl rfl ?_
    refine RL.y rfl (y_mov (v := .int _ _) rfl) ?_
    refine RL.take (t := 7) rfl rfl rfl ?_
    refine RL.call rfl (l01In_any) ?_
    rintro r w2 ⟨rfl, rfl⟩
    refine RL.y rfl (y_pickT (v := .bool _) rfl rfl) ?_
    refine RL.y rfl (y_asg (v := .bool _) rfl) ?_
    refine RL.nil ?_
    refine Fin.next ?_
    refine CW.ret ?_
    refine Fin.ret1 rfl (by conv => lhs; whnf) ?_
    exact ⟨_, rfl, bD ⟨fun h => ⟨h1, h⟩, fun h => h.2⟩, rfl⟩
  · with_reducible first | (replace h1 := deNF h1) | (replace h1 := of_decide_eq_true h1) | (replace h1 := of_decide_eq_false h1) | (replace h1 := deNT h1) | (replace h1 := deNN h1) | (replace h1 := bnT h1) | (replace h1 := bnF h1) | skip
    refine RL.pass (t := 7) rfl rfl rfl rfl ?_
    refine RL.pass (t := 7) rfl rfl rfl rfl ?_
    refine RL.y rfl (y_pickF (v := .bool _) rfl rfl) ?_
    refine RL.y rfl (y_asg (v := .bool _) rfl) ?_
    refine RL.nil ?_
    refine Fin.next ?_
    refine CW.ret ?_
    refine Fin.ret1 rfl (by conv => lhs; whnf) ?_
    exact ⟨_, rfl, bF (fun h => h1 h.1), rfl⟩

theorem l04Code_any {w : World} {q : Mk} {v u : Value} {ss : List (List Int)} {cs : List Int} (hv : RdL w v ss) (hu : SI w u cs) :
    Does Try.prog 88 #[mkA q, v, u] w (fun r w' => r = .int .i64 (if ¬ lck q ss then 1 else if key q cs then 0 else 2) ∧ Ext w w') := by
  obtain ⟨vl, rfl, hl⟩ := hv
  refine enter Try.func88 rfl 14 Try.ntmps88 rfl (by kernel_rfl) ?_
  refine CW.seq ?_
  refine CW.region ?_
  refine RL.box (cs := [.int .i64 q.ch, .int .i64 q.dp, .int .i64 q.st, .int .i64 q.sm, .int .i64 q.le]) rfl rfl rfl (fun w1 hV hE1 => ?_)
  refine RL.box (cs := [vl]) rfl rfl rfl (fun w2 hW hE2 => ?_)
  have hE12 := hE1.trans hE2
  refine RL.y rfl (y_asg rfl) ?_
  refine RL.nil ?_
  refine Fin.next ?_
  refine CW.seq ?_
  refine CW.seq ?_
  refine CW.region ?_
  refine RL.y rfl (y_loads ag25 rfl (eqw (hV.ext hE2)) rfl) ?_
  refine RL.y rfl (y_loads ag28 rfl (eqw (hW)) rfl) ?_
  refine RL.call rfl (specIsLock_any ⟨vl, rfl, hl.ext hE12⟩) ?_
  rintro r w3 ⟨rfl, hE3⟩
  have hE13 := hE12.trans hE3
  refine RL.y rfl (y_not rfl) ?_
  refine RL.nil ?_
  refine Fin.next ?_
  refine CW.cond rfl rfl (fun h1 => ?_) (fun h1 => ?_)
  · with_reducible first | (replace h1 := deNF h1) | (replace h1 := of_decide_eq_true h1) | (replace h1 := of_decide_eq_false h1) | (replace h1 := deNT h1) | (replace h1 := deNN h1) | (replace h1 := bnT h1) | (replace h1 := bnF h1) | skip
    refine CW.seq ?_
    refine CW.region ?_
    refine RL.y rfl (y_asg rfl) ?_
    refine RL.nil ?_
    refine Fin.next ?_
    refine CW.ret ?_
    refine Fin.thenRet ?_
    refine Fin.ret1 rfl (by conv => lhs; whnf) ?_
    exact ⟨_, rfl, by rw [if_pos h1], hE13⟩
  · with_reducible first | (replace h1 := deNF h1) | (replace h1 := of_decide_eq_true h1) | (replace h1 := of_decide_eq_false h1) | (replace h1 := deNT h1) | (replace h1 := deNN h1) | (replace h1 := bnT h1) | (replace h1 := bnF h1) | skip
    refine CW.skip ?_
    refine Fin.next ?_
    refine CW.seq ?_
    refine CW.region ?_
    refine RL.y rfl (y_loads ag25 rfl (eqw ((hV.ext hE2).ext hE3)) rfl) ?_
    refine RL.y rfl (y_mov (by conv => lhs; whnf)) ?_
    refine RL.call rfl (l02Code_any (hu.ext hE13)) ?_
    rintro r w4 ⟨rfl, hE4⟩
    refine RL.y rfl (y_asg (v := .int _ _) rfl) ?_
    refine RL.nil ?_
    refine Fin.next ?_
    refine CW.ret ?_
    refine Fin.ret1 rfl (by conv => lhs; whnf) ?_
    exact ⟨_, rfl, by rw [if_neg (not_not_intro h1.1), if_neg (not_not_intro h1)], hE13.trans hE4⟩

theorem l08Code_any {w : World} {q : Mk} {v u : Value} {ss : List (List Int)} {cs : List Int} {a t : Int} (hv : RdL w v ss) (hu : SI w u cs) :
    Does Try.prog 51 #[mkA q, v, u, .int .i64 a, .int .i64 t] w (fun r w' => r = .int .i64 (moC q ss cs a t) ∧ Ext w w') := by
  obtain ⟨vl, rfl, hl⟩ := hv
  refine enter Try.func51 rfl 25 Try.ntmps51 rfl (by kernel_rfl) ?_
  refine CW.seq ?_
  refine CW.region ?_
  refine RL.box (cs := [.int .i64 q.ch, .int .i64 q.dp, .int .i64 q.st, .int .i64 q.sm, .int .i64 q.le]) rfl rfl rfl (fun w1 hV hE1 => ?_)
  refine RL.box (cs := [vl]) rfl rfl rfl (fun w2 hW hE2 => ?_)
  have hE12 := hE1.trans hE2
  refine RL.y rfl (y_asg rfl) ?_
  refine RL.nil ?_
  refine Fin.next ?_
  refine CW.seq ?_
  refine CW.region ?_
  refine RL.y rfl (y_loads ag25 rfl (eqw (hV.ext hE2)) rfl) ?_
  refine RL.y rfl (y_loads ag28 rfl (eqw (hW)) rfl) ?_
  refine RL.y rfl (y_mov (by conv => lhs; whnf)) ?_
  refine RL.call rfl (l04Code_any ⟨vl, rfl, hl.ext hE12⟩ (hu.ext hE12)) ?_
  rintro r w3 ⟨rfl, hE3⟩
  have hE13 := hE12.trans hE3
  obtain ⟨c, hc⟩ : ∃ c : Int, c = (if ¬ lck q ss then 1 else if key q cs then 0 else 2) := ⟨_, rfl⟩
  rw [← hc]
  have hcz : c = 0 ↔ lck q ss ∧ key q cs := by rw [hc]; split; (rename_i h; exact ⟨fun e => by omega, fun e => absurd e.1 h⟩); (rename_i h; split; (rename_i h2; exact ⟨fun _ => ⟨Decidable.not_not.1 h, h2⟩, fun _ => rfl⟩); (rename_i h2; exact ⟨fun e => by omega, fun e => absurd e.2 h2⟩))
  refine RL.y rfl (y_asg (v := .int _ _) rfl) ?_
  refine RL.nil ?_
  refine Fin.next ?_
  refine CW.seq ?_
  refine CW.seq ?_
  refine CW.region ?_
  refine RL.y rfl (y_mov (v := .int _ _) rfl) ?_
  refine RL.y rfl (y_eq rfl rfl) ?_
  refine RL.y rfl (y_mov (v := .bool _) rfl) ?_
  refine RL.split (t := 18) rfl rfl (fun h1 => ?_) (fun h1 => ?_)
  · with_reducible first | (replace h1 := deNF h1) | (replace h1 := of_decide_eq_true h1) | (replace h1 := of_decide_eq_false h1) | (replace h1 := deNT h1) | (replace h1 := deNN h1) | (replace h1 := bnT h1) | (replace h1 := bnF h1) | skip
    refine RL.take (t := 18) rfl rfl rfl ?_
    refine RL.y rfl (y_mov (v := .int _ _) rfl) ?_
    refine RL.take (t := 18) rfl rfl rfl ?_
    refine RL.y rfl (y_mov (v := .int _ _) rfl) ?_
    refine RL.take (t := 18) rfl rfl rfl ?_
    refine RL.call rfl (l08Numbers_any) ?_
    rintro r w4 ⟨rfl, rfl⟩
    refine RL.take (t := 18) rfl rfl rfl ?_
    refine RL.y rfl (y_not rfl) ?_
    refine RL.y rfl (y_pickT (v := .bool _) rfl rfl) ?_
    refine RL.nil ?_
    refine Fin.next ?_
    refine CW.cond rfl rfl (fun h2 => ?_) (fun h2 => ?_)
    · with_reducible first | (replace h2 := deNF h2) | (replace h2 := of_decide_eq_true h2) | (replace h2 := of_decide_eq_false h2) | (replace h2 := deNT h2) | (replace h2 := deNN h2) | (replace h2 := bnT h2) | (replace h2 := bnF h2) | skip
      refine CW.seq ?_
      refine CW.region ?_
      refine RL.y rfl (y_asg rfl) ?_
      refine RL.nil ?_
      refine Fin.next ?_
      refine CW.ret ?_
      refine Fin.thenRet ?_
      refine Fin.ret1 rfl (by conv => lhs; whnf) ?_
      exact ⟨_, rfl, by unfold moC; rw [if_neg (not_not_intro (hcz.1 h1).1), if_neg (fun h => h2 h.1)], hE13⟩
    · with_reducible first | (replace h2 := deNF h2) | (replace h2 := of_decide_eq_true h2) | (replace h2 := of_decide_eq_false h2) | (replace h2 := deNT h2) | (replace h2 := deNN h2) | (replace h2 := bnT h2) | (replace h2 := bnF h2) | skip
      refine CW.skip ?_
      refine Fin.next ?_
      refine CW.seq ?_
      refine CW.region ?_
      refine RL.y rfl (y_mov (v := .int _ _) rfl) ?_
      refine RL.y rfl (y_asg (v := .int _ _) rfl) ?_
      refine RL.nil ?_
      refine Fin.next ?_
      refine CW.ret ?_
      refine Fin.ret1 rfl (by conv => lhs; whnf) ?_
      exact ⟨_, rfl, by unfold moC; rw [if_neg (not_not_intro (hcz.1 h1).1), if_pos ⟨h2, (hcz.1 h1).2⟩, h1], hE13⟩
  · with_reducible first | (replace h1 := deNF h1) | (replace h1 := of_decide_eq_true h1) | (replace h1 := of_decide_eq_false h1) | (replace h1 := deNT h1) | (replace h1 := deNN h1) | (replace h1 := bnT h1) | (replace h1 := bnF h1) | skip
    refine RL.pass (t := 18) rfl rfl rfl rfl ?_
    refine RL.pass (t := 18) rfl rfl rfl rfl ?_
    refine RL.pass (t := 18) rfl rfl rfl rfl ?_
    refine RL.pass (t := 18) rfl rfl rfl rfl ?_
    refine RL.y rfl (y_pickF (v := .bool _) rfl rfl) ?_
    refine RL.nil ?_
    refine Fin.next ?_
    refine CW.condF rfl rfl ?_
    refine CW.skip ?_
    refine Fin.next ?_
    refine CW.seq ?_
    refine CW.region ?_
    refine RL.y rfl (y_mov (v := .int _ _) rfl) ?_
    refine RL.y rfl (y_asg (v := .int _ _) rfl) ?_
    refine RL.nil ?_
    refine Fin.next ?_
    refine CW.ret ?_
    refine Fin.ret1 rfl (by conv => lhs; whnf) ?_
    exact ⟨_, rfl, by unfold moC; rw [hc]; by_cases hk : lck q ss; (rw [if_neg (not_not_intro hk), if_neg (not_not_intro hk), if_neg (fun h => h1 (hcz.2 ⟨hk, h⟩)), if_neg (fun h => h1 (hcz.2 ⟨hk, h.2⟩))]); (rw [if_pos hk, if_pos hk]), hE13⟩

theorem l08Lock_any {w : World} {q : Mk} {v : Value} {ss : List (List Int)} {a t : Int} (hv : RdL w v ss) :
    Does Try.prog 58 #[mkA q, v, .int .i64 a, .int .i64 t] w (fun r w' => r = .int .i64 (loC q ss a t) ∧ Ext w w') := by
  obtain ⟨vl, rfl, hl⟩ := hv
  refine enter Try.func58 rfl 17 Try.ntmps58 rfl (by kernel_rfl) ?_
  refine CW.seq ?_
  refine CW.region ?_
  refine RL.box (cs := [.int .i64 q.ch, .int .i64 q.dp, .int .i64 q.st, .int .i64 q.sm, .int .i64 q.le]) rfl rfl rfl (fun w1 hV hE1 => ?_)
  refine RL.box (cs := [vl]) rfl rfl rfl (fun w2 hW hE2 => ?_)
  have hE12 := hE1.trans hE2
  refine RL.y rfl (y_asg rfl) ?_
  refine RL.nil ?_
  refine Fin.next ?_
  refine CW.seq ?_
  refine CW.seq ?_
  refine CW.region ?_
  refine RL.y rfl (y_loads ag25 rfl (eqw (hV.ext hE2)) rfl) ?_
  refine RL.y rfl (y_loads ag28 rfl (eqw (hW)) rfl) ?_
  refine RL.call rfl (specIsLock_any ⟨vl, rfl, hl.ext hE12⟩) ?_
  rintro r w3 ⟨rfl, hE3⟩
  have hE13 := hE12.trans hE3
  refine RL.y rfl (y_not rfl) ?_
  refine RL.nil ?_
  refine Fin.next ?_
  refine CW.cond rfl rfl (fun h1 => ?_) (fun h1 => ?_)
  · with_reducible first | (replace h1 := deNF h1) | (replace h1 := of_decide_eq_true h1) | (replace h1 := of_decide_eq_false h1) | (replace h1 := deNT h1) | (replace h1 := deNN h1) | (replace h1 := bnT h1) | (replace h1 := bnF h1) | skip
    refine CW.seq ?_
    refine CW.region ?_
    refine RL.y rfl (y_asg rfl) ?_
    refine RL.nil ?_
    refine Fin.next ?_
    refine CW.ret ?_
    refine Fin.thenRet ?_
    refine Fin.ret1 rfl (by conv => lhs; whnf) ?_
    exact ⟨_, rfl, by unfold loC; rw [if_pos h1], hE13⟩
  · with_reducible first | (replace h1 := deNF h1) | (replace h1 := of_decide_eq_true h1) | (replace h1 := of_decide_eq_false h1) | (replace h1 := deNT h1) | (replace h1 := deNN h1) | (replace h1 := bnT h1) | (replace h1 := bnF h1) | skip
    refine CW.skip ?_
    refine Fin.next ?_
    refine CW.seq ?_
    refine CW.seq ?_
    refine CW.region ?_
    refine RL.y rfl (y_mov (v := .int _ _) rfl) ?_
    refine RL.y rfl (y_mov (v := .int _ _) rfl) ?_
    refine RL.call rfl (l08Numbers_any) ?_
    rintro r w4 ⟨rfl, rfl⟩
    refine RL.y rfl (y_not rfl) ?_
    refine RL.nil ?_
    refine Fin.next ?_
    refine CW.cond rfl rfl (fun h2 => ?_) (fun h2 => ?_)
    · with_reducible first | (replace h2 := deNF h2) | (replace h2 := of_decide_eq_true h2) | (replace h2 := of_decide_eq_false h2) | (replace h2 := deNT h2) | (replace h2 := deNN h2) | (replace h2 := bnT h2) | (replace h2 := bnF h2) | skip
      refine CW.seq ?_
      refine CW.region ?_
      refine RL.y rfl (y_asg rfl) ?_
      refine RL.nil ?_
      refine Fin.next ?_
      refine CW.ret ?_
      refine Fin.thenRet ?_
      refine Fin.ret1 rfl (by conv => lhs; whnf) ?_
      exact ⟨_, rfl, by unfold loC; rw [if_neg (not_not_intro h1), if_neg h2], hE13⟩
    · with_reducible first | (replace h2 := deNF h2) | (replace h2 := of_decide_eq_true h2) | (replace h2 := of_decide_eq_false h2) | (replace h2 := deNT h2) | (replace h2 := deNN h2) | (replace h2 := bnT h2) | (replace h2 := bnF h2) | skip
      refine CW.skip ?_
      refine Fin.next ?_
      refine CW.seq ?_
      refine CW.region ?_
      refine RL.y rfl (y_asg rfl) ?_
      refine RL.nil ?_
      refine Fin.next ?_
      refine CW.ret ?_
      refine Fin.ret1 rfl (by conv => lhs; whnf) ?_
      exact ⟨_, rfl, by unfold loC; rw [if_neg (not_not_intro h1), if_pos h2], hE13⟩

/-! ### Places -/
def sm8 (set : List Int) : Prop := ∀ x ∈ set, 0 ≤ x ∧ x ≤ 8
theorem fre_any (set : List Int) (p t : Int) : set.any (fun x => decide (max (p - 10 * x) (-(p - 10 * x)) ≤ t)) = decide (fre set p t) := by
  rw [Bool.eq_iff_iff, List.any_eq_true, decide_eq_true_eq]
  exact ⟨fun ⟨x, hx, h⟩ => ⟨x, hx, of_decide_eq_true h⟩, fun ⟨x, hx, h⟩ => ⟨x, hx, decide_eq_true h⟩⟩

theorem l08Free_any {w : World} {v : Value} {set : List Int} {p t : Int} (hv : SI w v set) (hs : sm8 set) (hp : -1000 ≤ p ∧ p ≤ 1000) :
    Does Try.prog 64 #[v, .int .i64 p, .int .i64 t] w (fun r w' => r = .bool (decide (fre set p t)) ∧ w = w') := by
  have hvl := SI.le hv
  refine enter Try.func64 rfl 24 Try.ntmps64 rfl (by kernel_rfl) ?_
  refine CW.seq ?_
  refine CW.region ?_
  refine RL.y rfl (y_asg rfl) ?_
  refine RL.nil ?_
  refine Fin.next ?_
  refine CW.seq ?_
  refine CW.seq ?_
  refine CW.region ?_
  refine RL.y rfl (y_asg rfl) ?_
  refine RL.nil ?_
  refine Fin.next ?_
  refine CW.block ?_
  refine CW.loop (fun m E w' => ∃ k : Nat, m = set.length - k ∧ k ≤ set.length ∧ agrees E [(0, v), (1, .int .i64 p), (2, .int .i64 t), (7, .int .i64 (k : Int))] ∧ (∀ x ∈ set.take k, ¬ max (p - 10 * x) (-(p - 10 * x)) ≤ t) ∧ w = w') _ ⟨0, rfl, Nat.zero_le _, ⟨rfl, rfl, rfl, rfl, trivial⟩, by simp, rfl⟩ ?_
  · rintro m E w2 ⟨k, rfl, hkk, hagk, hno, rfl⟩
    refine CW.re _ hagk rfl ?_
    clear hagk
    refine CW.seq ?_
    refine CW.seq ?_
    refine CW.region ?_
    refine RL.y rfl (y_mov (v := .int _ _) rfl) ?_
    refine RL.y rfl (y_mov (by conv => lhs; whnf)) ?_
    refine RL.y rfl (y_len sT29 hv (ints_len _) rfl) ?_
    refine RL.y rfl (y_lt rfl rfl) ?_
    refine RL.nil ?_
    refine Fin.next ?_
    refine CW.cond rfl rfl (fun hck => ?_) (fun hck => ?_)
    · with_reducible first | (replace hck := deNF hck) | (replace hck := of_decide_eq_true hck) | (replace hck := of_decide_eq_false hck) | (replace hck := deNT hck) | (replace hck := deNN hck) | (replace hck := bnT hck) | (replace hck := bnF hck) | skip
      have hltk : k < set.length := by omega
      have hb := hs _ (List.getElem_mem hltk)
      refine CW.skip ?_
      refine Fin.next ?_
      refine CW.seq ?_
      refine CW.block ?_
      refine CW.seq ?_
      refine CW.region ?_
      refine RL.y rfl (y_mov (v := .int _ _) rfl) ?_
      refine RL.y rfl (y_mov (by conv => lhs; whnf)) ?_
      refine RL.y rfl (y_mov (v := .int _ _) rfl) ?_
      refine RL.y rfl (y_ixa sT29 (eqw (hv)) (k := k) (ints_lt hltk) rfl rfl) ?_
      refine RL.y rfl (y_load sc2 (eqw (hv)) (ints_at hltk) rfl) ?_
      refine RL.y rfl (y_mul rfl rfl (IntWalk.i64_in _ (by omega))) ?_
      refine RL.y rfl (y_sub rfl rfl (IntWalk.i64_in _ (by omega))) ?_
      refine RL.call rfl (l01Abs_any (by omega)) ?_
      rintro r w3 ⟨rfl, rfl⟩
      refine RL.y rfl (y_mov (v := .int _ _) rfl) ?_
      refine RL.y rfl (y_le rfl rfl) ?_
      refine RL.nil ?_
      refine Fin.next ?_
      refine CW.cond rfl rfl (fun h1 => ?_) (fun h1 => ?_)
      · with_reducible first | (replace h1 := deNF h1) | (replace h1 := of_decide_eq_true h1) | (replace h1 := of_decide_eq_false h1) | (replace h1 := deNT h1) | (replace h1 := deNN h1) | (replace h1 := bnT h1) | (replace h1 := bnF h1) | skip
        refine CW.seq ?_
        refine CW.region ?_
        refine RL.y rfl (y_asg rfl) ?_
        refine RL.nil ?_
        refine Fin.next ?_
        refine CW.ret ?_
        refine Fin.blockRet ?_
        refine Fin.thenRet ?_
        refine Fin.thenRet ?_
        refine Fin.blockRet ?_
        refine Fin.thenRet ?_
        refine Fin.ret1 rfl (by conv => lhs; whnf) ?_
        exact ⟨_, rfl, bT ⟨_, List.getElem_mem hltk, h1⟩, rfl⟩
      · with_reducible first | (replace h1 := deNF h1) | (replace h1 := of_decide_eq_true h1) | (replace h1 := of_decide_eq_false h1) | (replace h1 := deNT h1) | (replace h1 := deNN h1) | (replace h1 := bnT h1) | (replace h1 := bnF h1) | skip
        refine CW.skip ?_
        refine Fin.blockNormal ?_
        refine Fin.next ?_
        refine CW.region ?_
        refine RL.y rfl (y_mov (v := .int _ _) rfl) ?_
        refine RL.y rfl (y_add rfl rfl (IntWalk.i64_in _ (by omega))) ?_
        refine RL.y rfl (y_asg (v := .int _ _) rfl) ?_
        refine RL.nil ?_
        refine Fin.le ?_
        exact ⟨set.length - (k + 1), by omega, k + 1, rfl, hltk, ⟨rfl, rfl, rfl, rfl, trivial⟩, all_snoc hltk hno (by omega), rfl⟩
    · with_reducible first | (replace hck := deNF hck) | (replace hck := of_decide_eq_true hck) | (replace hck := of_decide_eq_false hck) | (replace hck := deNT hck) | (replace hck := deNN hck) | (replace hck := bnT hck) | (replace hck := bnF hck) | skip
      obtain rfl : set.length = k := by omega
      rw [List.take_length] at hno
      refine CW.exit ?_
      refine Fin.thenExit ?_
      refine Fin.thenExit ?_
      refine Fin.blockHit ?_
      refine Fin.next ?_
      refine CW.seq ?_
      refine CW.region ?_
      refine RL.y rfl (y_asg rfl) ?_
      refine RL.nil ?_
      refine Fin.next ?_
      refine CW.ret ?_
      refine Fin.ret1 rfl (by conv => lhs; whnf) ?_
      exact ⟨_, rfl, bF (fun ⟨x, hx, h⟩ => hno x hx h), rfl⟩

theorem isFree1_any {w : World} {b c : Nat} {p t x : Int} (hV : VR w b [.int .i64 p]) (hW : VR w c [.int .i64 t]) (hx : 0 ≤ x ∧ x ≤ 8) (hp : -1000 ≤ p ∧ p ≤ 1000) :
    Does Try.prog 106 #[.int .i64 x, .pointer (some ⟨b, 0, none⟩), .pointer (some ⟨c, 0, none⟩)] w (fun r w' => r = .bool (decide (max (p - 10 * x) (-(p - 10 * x)) ≤ t)) ∧ Ext w w') := by
  refine enter Try.func106 rfl 12 Try.ntmps106 rfl (by kernel_rfl) ?_
  refine CW.seq ?_
  refine CW.region ?_
  refine RL.y rfl (y_asg rfl) ?_
  refine RL.nil ?_
  refine Fin.next ?_
  refine CW.seq ?_
  refine CW.quietE mixed (by kernel_rfl) ?_
  refine QL.y rfl (y_loadv sc2 (fun _ hC => (hV).ext hC) rfl rfl) ?_
  refine QL.y rfl (y_mov (v := .int _ _) rfl) ?_
  refine QL.y rfl (y_mul rfl rfl (IntWalk.i64_in _ (by omega))) ?_
  refine QL.y rfl (y_sub rfl rfl (IntWalk.i64_in _ (by omega))) ?_
  refine QL.call rfl (fun _ hC => qs hC (absolute_any (by omega))) ?_
  refine QL.y rfl (y_loadv sc2 (fun _ hC => (hW).ext hC) rfl rfl) ?_
  refine QL.y rfl (y_le rfl rfl) ?_
  refine QL.y rfl (y_asg (v := .bool _) rfl) ?_
  refine QL.nil (fun w2 hE2 => ?_)
  refine Fin.next ?_
  refine CW.ret ?_
  refine Fin.ret1 rfl (by conv => lhs; whnf) ?_
  exact ⟨_, rfl, rfl, hE2⟩

theorem isFree_any {w : World} {v : Value} {set : List Int} {p t : Int} (hv : SI w v set) (hs : sm8 set) (hp : -1000 ≤ p ∧ p ≤ 1000) :
    Does Try.prog 67 #[v, .int .i64 p, .int .i64 t] w (fun r w' => r = .bool (decide (fre set p t)) ∧ Ext w w') := by
  refine enter Try.func67 rfl 10 Try.ntmps67 rfl (by kernel_rfl) ?_
  refine CW.seq ?_
  refine CW.region ?_
  refine RL.box (cs := [.int .i64 p]) rfl rfl rfl (fun w1 hV hE1 => ?_)
  refine RL.box (cs := [.int .i64 t]) rfl rfl rfl (fun w2 hW hE2 => ?_)
  refine RL.y rfl (y_asg rfl) ?_
  refine RL.nil ?_
  refine Fin.next ?_
  refine CW.seq ?_
  refine CW.region ?_
  refine RL.y rfl (y_mov (by conv => lhs; whnf)) ?_
  refine RL.y rfl (y_fnl rfl) ?_
  refine RL.call rfl (ContainsFuncI_any (fun x => decide (max (p - 10 * x) (-(p - 10 * x)) ≤ t)) ((hv.ext hE1).ext hE2) (fun w' x he hx => isFree1_any ((hV.ext hE2).ext he) (hW.ext he) (hs x hx) hp)) ?_
  rintro r w3 ⟨rfl, hE3⟩
  refine RL.y rfl (y_asg (v := .bool _) rfl) ?_
  refine RL.nil ?_
  refine Fin.next ?_
  refine CW.ret ?_
  refine Fin.ret1 rfl (by conv => lhs; whnf) ?_
  exact ⟨_, rfl, congrArg Value.bool (fre_any set p t), (hE1.trans hE2).trans hE3⟩

theorem freePlaces_any {w : World} {v : Value} {set : List Int} {c a t : Int} (hv : SI w v set) (hs : sm8 set) (hc : 0 ≤ c ∧ c ≤ 8) (ha : 0 ≤ a ∧ a ≤ 19) :
    Does Try.prog 72 #[v, .int .i64 c, .int .i64 a, .int .i64 t] w (fun r w' => r = .int .i64 ((cnt set c (a + 1).toNat t : Nat) : Int) ∧ Ext w w') := by
  refine enter Try.func72 rfl 28 Try.ntmps72 rfl (by kernel_rfl) ?_
  refine CW.seq ?_
  refine CW.region ?_
  refine RL.y rfl (y_asg rfl) ?_
  refine RL.nil ?_
  refine Fin.next ?_
  refine CW.seq ?_
  refine CW.region ?_
  refine RL.y rfl (y_asg rfl) ?_
  refine RL.nil ?_
  refine Fin.next ?_
  refine CW.seq ?_
  refine CW.seq ?_
  refine CW.region ?_
  refine RL.y rfl (y_mov (v := .int _ _) rfl) ?_
  refine RL.y rfl (y_mul rfl rfl (IntWalk.i64_in _ (by omega))) ?_
  refine RL.y rfl (y_asg (v := .int _ _) rfl) ?_
  refine RL.nil ?_
  refine Fin.next ?_
  refine CW.block ?_
  refine CW.loop (fun m E w' => ∃ k : Nat, m = (a + 1).toNat - k ∧ k ≤ (a + 1).toNat ∧ agrees E [(0, v), (1, .int .i64 c), (2, .int .i64 a), (3, .int .i64 t), (9, .int .i64 ((cnt set c k t : Nat) : Int)), (10, .int .i64 (10 * c + (k : Int)))] ∧ Ext w w') _ (⟨0, rfl, Nat.zero_le _, ⟨rfl, rfl, rfl, rfl, rfl, by rw [show (10 * c + ((0 : Nat) : Int)) = 10 * c from by omega]; rfl, trivial⟩, Ext.refl w⟩) ?_
  · rintro m E w2 ⟨k, rfl, hk, hag, hE2⟩
    refine CW.re _ hag rfl ?_
    refine CW.seq ?_
    refine CW.seq ?_
    refine CW.region ?_
    refine RL.y rfl (y_mov (v := .int _ _) rfl) ?_
    refine RL.y rfl (y_mov (v := .int _ _) rfl) ?_
    refine RL.y rfl (y_mul rfl rfl (IntWalk.i64_in _ (by omega))) ?_
    refine RL.y rfl (y_mov (v := .int _ _) rfl) ?_
    refine RL.y rfl (y_add rfl rfl (IntWalk.i64_in _ (by omega))) ?_
    refine RL.y rfl (y_le rfl rfl) ?_
    refine RL.nil ?_
    refine Fin.next ?_
    refine CW.cond rfl rfl (fun h1 => ?_) (fun h1 => ?_)
    · with_reducible first | (replace h1 := deNF h1) | (replace h1 := of_decide_eq_true h1) | (replace h1 := of_decide_eq_false h1) | (replace h1 := deNT h1) | (replace h1 := deNN h1) | (replace h1 := bnT h1) | (replace h1 := bnF h1) | skip
      have hlt : k < (a + 1).toNat := by omega
      have hck := cnt_le set c t k
      refine CW.skip ?_
      refine Fin.next ?_
      refine CW.seq ?_
      refine CW.block ?_
      refine CW.seq ?_
      refine CW.region ?_
      refine RL.y rfl (y_mov (by conv => lhs; whnf)) ?_
      refine RL.y rfl (y_mov (v := .int _ _) rfl) ?_
      refine RL.y rfl (y_mov (v := .int _ _) rfl) ?_
      refine RL.call rfl (isFree_any (hv.ext hE2) hs (by omega)) ?_
      rintro r w3 ⟨rfl, hE3⟩
      refine RL.nil ?_
      refine Fin.next ?_
      refine CW.cond rfl rfl (fun h2 => ?_) (fun h2 => ?_)
      · with_reducible first | (replace h2 := deNF h2) | (replace h2 := of_decide_eq_true h2) | (replace h2 := of_decide_eq_false h2) | (replace h2 := deNT h2) | (replace h2 := deNN h2) | (replace h2 := bnT h2) | (replace h2 := bnF h2) | skip
        refine CW.region ?_
        refine RL.y rfl (y_mov (v := .int _ _) rfl) ?_
        refine RL.y rfl (y_add rfl rfl (IntWalk.i64_in _ (by omega))) ?_
        refine RL.y rfl (y_asg (v := .int _ _) rfl) ?_
        refine RL.nil ?_
        refine Fin.blockNormal ?_
        refine Fin.next ?_
        refine CW.region ?_
        refine RL.y rfl (y_mov (v := .int _ _) rfl) ?_
        refine RL.y rfl (y_add rfl rfl (IntWalk.i64_in _ (by omega))) ?_
        refine RL.y rfl (y_asg (v := .int _ _) rfl) ?_
        refine RL.nil ?_
        refine Fin.le ?_
        exact ⟨(a + 1).toNat - (k + 1), by omega, k + 1, rfl, hlt, ⟨rfl, rfl, rfl, rfl, by rw [cnt_yes h2]; rfl, by rw [show (10 * c + ((k + 1 : Nat) : Int)) = 10 * c + (k : Int) + 1 from by omega]; rfl, trivial⟩, hE2.trans hE3⟩
      · with_reducible first | (replace h2 := deNF h2) | (replace h2 := of_decide_eq_true h2) | (replace h2 := of_decide_eq_false h2) | (replace h2 := deNT h2) | (replace h2 := deNN h2) | (replace h2 := bnT h2) | (replace h2 := bnF h2) | skip
        refine CW.skip ?_
        refine Fin.blockNormal ?_
        refine Fin.next ?_
        refine CW.region ?_
        refine RL.y rfl (y_mov (v := .int _ _) rfl) ?_
        refine RL.y rfl (y_add rfl rfl (IntWalk.i64_in _ (by omega))) ?_
        refine RL.y rfl (y_asg (v := .int _ _) rfl) ?_
        refine RL.nil ?_
        refine Fin.le ?_
        exact ⟨(a + 1).toNat - (k + 1), by omega, k + 1, rfl, hlt, ⟨rfl, rfl, rfl, rfl, by rw [cnt_no h2]; rfl, by rw [show (10 * c + ((k + 1 : Nat) : Int)) = 10 * c + (k : Int) + 1 from by omega]; rfl, trivial⟩, hE2.trans hE3⟩
    · with_reducible first | (replace h1 := deNF h1) | (replace h1 := of_decide_eq_true h1) | (replace h1 := of_decide_eq_false h1) | (replace h1 := deNT h1) | (replace h1 := deNN h1) | (replace h1 := bnT h1) | (replace h1 := bnF h1) | skip
      obtain rfl : k = (a + 1).toNat := by omega
      refine CW.exit ?_
      refine Fin.thenExit ?_
      refine Fin.thenExit ?_
      refine Fin.blockHit ?_
      refine Fin.next ?_
      refine CW.seq ?_
      refine CW.region ?_
      refine RL.y rfl (y_mov (v := .int _ _) rfl) ?_
      refine RL.y rfl (y_asg (v := .int _ _) rfl) ?_
      refine RL.nil ?_
      refine Fin.next ?_
      refine CW.ret ?_
      refine Fin.ret1 rfl (by conv => lhs; whnf) ?_
      exact ⟨_, rfl, rfl, hE2⟩

theorem cnt_some {set : List Int} {c t : Int} {n : Nat} : 0 < cnt set c (n + 1) t ↔ 0 < cnt set c n t ∨ fre set (10 * c + (n : Int)) t := by
  by_cases h : fre set (10 * c + (n : Int)) t
  · rw [cnt_yes h]; exact ⟨fun _ => .inr h, fun _ => by omega⟩
  · rw [cnt_no h]; exact ⟨fun k => .inl k, fun k => k.resolve_right h⟩
theorem cnt_all {set : List Int} {c t : Int} {n : Nat} : cnt set c (n + 1) t = n + 1 ↔ cnt set c n t = n ∧ fre set (10 * c + (n : Int)) t := by
  have := cnt_le set c t n
  by_cases h : fre set (10 * c + (n : Int)) t
  · rw [cnt_yes h]; exact ⟨fun _ => ⟨by omega, h⟩, fun k => by omega⟩
  · rw [cnt_no h]; exact ⟨fun k => by omega, fun k => absurd k.2 h⟩
theorem may_succ {ss : List (List Int)} {cs : List Int} {n k : Nat} {t : Int} : mayTo ss cs n t (k + 1) ↔ mayTo ss cs n t k ∧ 0 < cnt (ss.getD k []) (cs.getD k 0) n t :=
  ⟨fun h => ⟨fun i hi => h i (by omega), h k (by omega)⟩, fun h => all_succ h.1 h.2⟩
theorem sur_succ {ss : List (List Int)} {cs : List Int} {n k : Nat} {t : Int} : surTo ss cs n t (k + 1) ↔ surTo ss cs n t k ∧ cnt (ss.getD k []) (cs.getD k 0) n t = n :=
  ⟨fun h => ⟨fun i hi => h i (by omega), h k (by omega)⟩, fun h => all_succ h.1 h.2⟩

theorem l08Cut_any {w : World} {v : Value} {set : List Int} {c a t : Int} (hv : SI w v set) (hs : sm8 set) (hc : 0 ≤ c ∧ c ≤ 8) (ha : 0 ≤ a ∧ a ≤ 19) :
    Does Try.prog 89 #[v, .int .i64 c, .int .i64 a, .int .i64 t] w (fun r w' => r = .tuple #[.bool (decide (0 < cnt set c (a + 1).toNat t)), .bool (decide (cnt set c (a + 1).toNat t = (a + 1).toNat))] ∧ w = w') := by
  refine enter Try.func89 rfl 36 Try.ntmps89 rfl (by kernel_rfl) ?_
  refine CW.seq ?_
  refine CW.region ?_
  refine RL.y rfl (y_asg rfl) ?_
  refine RL.y rfl (y_asg rfl) ?_
  refine RL.nil ?_
  refine Fin.next ?_
  refine CW.seq ?_
  refine CW.region ?_
  refine RL.y rfl (y_asg rfl) ?_
  refine RL.y rfl (y_asg rfl) ?_
  refine RL.nil ?_
  refine Fin.next ?_
  refine CW.seq ?_
  refine CW.seq ?_
  refine CW.region ?_
  refine RL.y rfl (y_asg rfl) ?_
  refine RL.nil ?_
  refine Fin.next ?_
  refine CW.block ?_
  refine CW.loop (fun m E w' => ∃ k : Nat, m = (a + 1).toNat - k ∧ k ≤ (a + 1).toNat ∧ agrees E [(0, v), (1, .int .i64 c), (2, .int .i64 a), (3, .int .i64 t), (10, .bool (decide (0 < cnt set c k t))), (11, .bool (decide (cnt set c k t = k))), (12, .int .i64 (k : Int))] ∧ w = w') _ (⟨0, rfl, Nat.zero_le _, ⟨rfl, rfl, rfl, rfl, rfl, rfl, rfl, trivial⟩, rfl⟩) ?_
  · rintro m E w2 ⟨k, rfl, hk, hag, rfl⟩
    refine CW.re _ hag rfl ?_
    refine CW.seq ?_
    refine CW.seq ?_
    refine CW.region ?_
    refine RL.y rfl (y_mov (v := .int _ _) rfl) ?_
    refine RL.y rfl (y_mov (v := .int _ _) rfl) ?_
    refine RL.y rfl (y_le rfl rfl) ?_
    refine RL.nil ?_
    refine Fin.next ?_
    refine CW.cond rfl rfl (fun h1 => ?_) (fun h1 => ?_)
    · with_reducible first | (replace h1 := deNF h1) | (replace h1 := of_decide_eq_true h1) | (replace h1 := of_decide_eq_false h1) | (replace h1 := deNT h1) | (replace h1 := deNN h1) | (replace h1 := bnT h1) | (replace h1 := bnF h1) | skip
      have hlt : k < (a + 1).toNat := by omega
      refine CW.skip ?_
      refine Fin.next ?_
      refine CW.seq ?_
      refine CW.block ?_
      refine CW.seq ?_
      refine CW.region ?_
      refine RL.y rfl (y_mov (by conv => lhs; whnf)) ?_
      refine RL.y rfl (y_mov (v := .int _ _) rfl) ?_
      refine RL.y rfl (y_mul rfl rfl (IntWalk.i64_in _ (by omega))) ?_
      refine RL.y rfl (y_mov (v := .int _ _) rfl) ?_
      refine RL.y rfl (y_add rfl rfl (IntWalk.i64_in _ (by omega))) ?_
      refine RL.y rfl (y_mov (v := .int _ _) rfl) ?_
      refine RL.call rfl (l08Free_any hv hs (by omega)) ?_
      rintro r w3 ⟨rfl, rfl⟩
      refine RL.y rfl (y_asg (v := .bool _) rfl) ?_
      refine RL.nil ?_
      refine Fin.next ?_
      refine CW.seq ?_
      refine CW.region ?_
      refine RL.y rfl (y_mov (v := .bool _) rfl) ?_
      refine RL.y rfl (y_mov (v := .bool _) rfl) ?_
      refine RL.split (t := 27) rfl rfl (fun h2 => ?_) (fun h2 => ?_)
      · with_reducible first | (replace h2 := deNF h2) | (replace h2 := of_decide_eq_true h2) | (replace h2 := of_decide_eq_false h2) | (replace h2 := deNT h2) | (replace h2 := deNN h2) | (replace h2 := bnT h2) | (replace h2 := bnF h2) | skip
        refine RL.pass (t := 27) rfl rfl rfl rfl ?_
        refine RL.y rfl (y_pickT (v := .bool _) rfl rfl) ?_
        refine RL.y rfl (y_asg (v := .bool _) rfl) ?_
        refine RL.nil ?_
        refine Fin.next ?_
        refine CW.region ?_
        refine RL.y rfl (y_mov (v := .bool _) rfl) ?_
        refine RL.y rfl (y_mov (v := .bool _) rfl) ?_
        refine RL.split (t := 31) rfl rfl (fun h3 => ?_) (fun h3 => ?_)
        · with_reducible first | (replace h3 := deNF h3) | (replace h3 := of_decide_eq_true h3) | (replace h3 := of_decide_eq_false h3) | (replace h3 := deNT h3) | (replace h3 := deNN h3) | (replace h3 := bnT h3) | (replace h3 := bnF h3) | skip
          refine RL.take (t := 31) rfl rfl rfl ?_
          refine RL.y rfl (y_mov (v := .bool _) rfl) ?_
          refine RL.y rfl (y_pickT (v := .bool _) rfl rfl) ?_
          refine RL.y rfl (y_asg (v := .bool _) rfl) ?_
          refine RL.nil ?_
          refine Fin.blockNormal ?_
          refine Fin.next ?_
          refine CW.region ?_
          refine RL.y rfl (y_mov (v := .int _ _) rfl) ?_
          refine RL.y rfl (y_add rfl rfl (IntWalk.i64_in _ (by omega))) ?_
          refine RL.y rfl (y_asg (v := .int _ _) rfl) ?_
          refine RL.nil ?_
          refine Fin.le ?_
          exact ⟨(a + 1).toNat - (k + 1), by omega, k + 1, rfl, hlt, ⟨rfl, rfl, rfl, rfl, congrArg Value.bool (decide_eq_true (cnt_some.2 (.inl h2))).symm, congrArg Value.bool (decide_eq_decide.2 ⟨fun h => cnt_all.2 ⟨h3, h⟩, fun h => (cnt_all.1 h).2⟩), rfl, trivial⟩, rfl⟩
        · with_reducible first | (replace h3 := deNF h3) | (replace h3 := of_decide_eq_true h3) | (replace h3 := of_decide_eq_false h3) | (replace h3 := deNT h3) | (replace h3 := deNN h3) | (replace h3 := bnT h3) | (replace h3 := bnF h3) | skip
          refine RL.pass (t := 31) rfl rfl rfl rfl ?_
          refine RL.y rfl (y_pickF (v := .bool _) rfl rfl) ?_
          refine RL.y rfl (y_asg (v := .bool _) rfl) ?_
          refine RL.nil ?_
          refine Fin.blockNormal ?_
          refine Fin.next ?_
          refine CW.region ?_
          refine RL.y rfl (y_mov (v := .int _ _) rfl) ?_
          refine RL.y rfl (y_add rfl rfl (IntWalk.i64_in _ (by omega))) ?_
          refine RL.y rfl (y_asg (v := .int _ _) rfl) ?_
          refine RL.nil ?_
          refine Fin.le ?_
          exact ⟨(a + 1).toNat - (k + 1), by omega, k + 1, rfl, hlt, ⟨rfl, rfl, rfl, rfl, congrArg Value.bool (decide_eq_true (cnt_some.2 (.inl h2))).symm, congrArg Value.bool (decide_eq_false (fun h => h3 (cnt_all.1 h).1)).symm, rfl, trivial⟩, rfl⟩
      · with_reducible first | (replace h2 := deNF h2) | (replace h2 := of_decide_eq_true h2) | (replace h2 := of_decide_eq_false h2) | (replace h2 := deNT h2) | (replace h2 := deNN h2) | (replace h2 := bnT h2) | (replace h2 := bnF h2) | skip
        refine RL.take (t := 27) rfl rfl rfl ?_
        refine RL.y rfl (y_mov (v := .bool _) rfl) ?_
        refine RL.y rfl (y_pickF (v := .bool _) rfl rfl) ?_
        refine RL.y rfl (y_asg (v := .bool _) rfl) ?_
        refine RL.nil ?_
        refine Fin.next ?_
        refine CW.region ?_
        refine RL.y rfl (y_mov (v := .bool _) rfl) ?_
        refine RL.y rfl (y_mov (v := .bool _) rfl) ?_
        refine RL.split (t := 31) rfl rfl (fun h3 => ?_) (fun h3 => ?_)
        · with_reducible first | (replace h3 := deNF h3) | (replace h3 := of_decide_eq_true h3) | (replace h3 := of_decide_eq_false h3) | (replace h3 := deNT h3) | (replace h3 := deNN h3) | (replace h3 := bnT h3) | (replace h3 := bnF h3) | skip
          refine RL.take (t := 31) rfl rfl rfl ?_
          refine RL.y rfl (y_mov (v := .bool _) rfl) ?_
          refine RL.y rfl (y_pickT (v := .bool _) rfl rfl) ?_
          refine RL.y rfl (y_asg (v := .bool _) rfl) ?_
          refine RL.nil ?_
          refine Fin.blockNormal ?_
          refine Fin.next ?_
          refine CW.region ?_
          refine RL.y rfl (y_mov (v := .int _ _) rfl) ?_
          refine RL.y rfl (y_add rfl rfl (IntWalk.i64_in _ (by omega))) ?_
          refine RL.y rfl (y_asg (v := .int _ _) rfl) ?_
          refine RL.nil ?_
          refine Fin.le ?_
          exact ⟨(a + 1).toNat - (k + 1), by omega, k + 1, rfl, hlt, ⟨rfl, rfl, rfl, rfl, congrArg Value.bool (decide_eq_decide.2 ⟨fun h => cnt_some.2 (.inr h), fun h => (cnt_some.1 h).resolve_left h2⟩), congrArg Value.bool (decide_eq_decide.2 ⟨fun h => cnt_all.2 ⟨h3, h⟩, fun h => (cnt_all.1 h).2⟩), rfl, trivial⟩, rfl⟩
        · with_reducible first | (replace h3 := deNF h3) | (replace h3 := of_decide_eq_true h3) | (replace h3 := of_decide_eq_false h3) | (replace h3 := deNT h3) | (replace h3 := deNN h3) | (replace h3 := bnT h3) | (replace h3 := bnF h3) | skip
          refine RL.pass (t := 31) rfl rfl rfl rfl ?_
          refine RL.y rfl (y_pickF (v := .bool _) rfl rfl) ?_
          refine RL.y rfl (y_asg (v := .bool _) rfl) ?_
          refine RL.nil ?_
          refine Fin.blockNormal ?_
          refine Fin.next ?_
          refine CW.region ?_
          refine RL.y rfl (y_mov (v := .int _ _) rfl) ?_
          refine RL.y rfl (y_add rfl rfl (IntWalk.i64_in _ (by omega))) ?_
          refine RL.y rfl (y_asg (v := .int _ _) rfl) ?_
          refine RL.nil ?_
          refine Fin.le ?_
          exact ⟨(a + 1).toNat - (k + 1), by omega, k + 1, rfl, hlt, ⟨rfl, rfl, rfl, rfl, congrArg Value.bool (decide_eq_decide.2 ⟨fun h => cnt_some.2 (.inr h), fun h => (cnt_some.1 h).resolve_left h2⟩), congrArg Value.bool (decide_eq_false (fun h => h3 (cnt_all.1 h).1)).symm, rfl, trivial⟩, rfl⟩
    · with_reducible first | (replace h1 := deNF h1) | (replace h1 := of_decide_eq_true h1) | (replace h1 := of_decide_eq_false h1) | (replace h1 := deNT h1) | (replace h1 := deNN h1) | (replace h1 := bnT h1) | (replace h1 := bnF h1) | skip
      obtain rfl : k = (a + 1).toNat := by omega
      refine CW.exit ?_
      refine Fin.thenExit ?_
      refine Fin.thenExit ?_
      refine Fin.blockHit ?_
      refine Fin.next ?_
      refine CW.seq ?_
      refine CW.region ?_
      refine RL.y rfl (y_mov (v := .bool _) rfl) ?_
      refine RL.y rfl (y_mov (v := .bool _) rfl) ?_
      refine RL.y rfl (y_asg (v := .bool _) rfl) ?_
      refine RL.y rfl (y_asg (v := .bool _) rfl) ?_
      refine RL.nil ?_
      refine Fin.next ?_
      refine CW.ret ?_
      refine Fin.ret2 rfl (by conv => lhs; whnf) (by conv => lhs; whnf) ?_
      exact ⟨_, rfl, rfl, rfl⟩

theorem l08Key_any {w : World} {v u : Value} {ss : List (List Int)} {cs : List Int} {a t : Int} (hv : RdL w v ss) (hu : SI w u cs) (hl : cs.length ≤ ss.length) (hs : ∀ r ∈ ss, sm8 r) (hc : sm8 cs) (ha : 0 ≤ a ∧ a ≤ 19) :
    Does Try.prog 52 #[v, u, .int .i64 a, .int .i64 t] w (fun r w' => r = .tuple #[.bool (decide (mayTo ss cs (a + 1).toNat t cs.length)), .bool (decide (surTo ss cs (a + 1).toNat t cs.length))] ∧ Ext w w') := by
  obtain ⟨vl, rfl, vs, hr⟩ := hv
  have hul := SI.le hu
  refine enter Try.func52 rfl 46 Try.ntmps52 rfl (by kernel_rfl) ?_
  refine CW.seq ?_
  refine CW.region ?_
  refine RL.box (cs := [vl]) rfl rfl rfl (fun w1 hV hE1 => ?_)
  refine RL.y rfl (y_asg rfl) ?_
  refine RL.y rfl (y_asg rfl) ?_
  refine RL.nil ?_
  refine Fin.next ?_
  refine CW.seq ?_
  refine CW.region ?_
  refine RL.y rfl (y_asg rfl) ?_
  refine RL.y rfl (y_asg rfl) ?_
  refine RL.nil ?_
  refine Fin.next ?_
  refine CW.seq ?_
  refine CW.seq ?_
  refine CW.region ?_
  refine RL.y rfl (y_asg rfl) ?_
  refine RL.nil ?_
  refine Fin.next ?_
  refine CW.block ?_
  refine CW.loop (fun m E w' => ∃ k : Nat, m = cs.length - k ∧ k ≤ cs.length ∧ agrees E [(4, .pointer (some ⟨w.heap.size, 0, none⟩)), (1, u), (2, .int .i64 a), (3, .int .i64 t), (10, .bool (decide (mayTo ss cs (a + 1).toNat t k))), (11, .bool (decide (surTo ss cs (a + 1).toNat t k))), (12, .int .i64 (k : Int))] ∧ Ext w1 w') _ ⟨0, rfl, Nat.zero_le _, ⟨rfl, rfl, rfl, rfl, congrArg Value.bool (decide_eq_true (fun i hi => absurd hi (Nat.not_lt_zero i))).symm, congrArg Value.bool (decide_eq_true (fun i hi => absurd hi (Nat.not_lt_zero i))).symm, rfl, trivial⟩, Ext.refl _⟩ ?_
  · rintro m E w2 ⟨k, rfl, hkk, hagk, hE2⟩
    refine CW.re _ hagk rfl ?_
    clear hagk
    refine CW.seq ?_
    refine CW.seq ?_
    refine CW.region ?_
    refine RL.y rfl (y_mov (v := .int _ _) rfl) ?_
    refine RL.y rfl (y_mov (by conv => lhs; whnf)) ?_
    refine RL.y rfl (y_len sT29 hu (ints_len _) rfl) ?_
    refine RL.y rfl (y_lt rfl rfl) ?_
    refine RL.nil ?_
    refine Fin.next ?_
    refine CW.cond rfl rfl (fun hck => ?_) (fun hck => ?_)
    · with_reducible first | (replace hck := deNF hck) | (replace hck := of_decide_eq_true hck) | (replace hck := of_decide_eq_false hck) | (replace hck := deNT hck) | (replace hck := deNN hck) | (replace hck := bnT hck) | (replace hck := bnF hck) | skip
      have hltk : k < cs.length := by omega
      have hE02 := hE1.trans hE2
      have hks : k < ss.length := by omega
      have hrs := hs _ (List.getElem_mem hks)
      have hck := hc _ (List.getElem_mem hltk)
      have g1 : ss.getD k [] = ss[k] := getD_lt hks
      have g2 : cs.getD k 0 = cs[k] := getD_lt hltk
      have hm1 := may_succ (ss := ss) (cs := cs) (n := (a + 1).toNat) (k := k) (t := t)
      have hs1 := sur_succ (ss := ss) (cs := cs) (n := (a + 1).toNat) (k := k) (t := t)
      rw [g1, g2] at hm1 hs1
      refine CW.skip ?_
      refine Fin.next ?_
      refine CW.seq ?_
      refine CW.block ?_
      refine CW.seq ?_
      refine CW.quietE mixed (by kernel_rfl) ?_
      refine QL.y rfl (y_fa fa28_0 rfl rfl) ?_
      refine QL.y rfl (y_loadv sc26 (fun _ hC => (hV.ext hE2).ext hC) rfl rfl) ?_
      refine QL.y rfl (y_mov (v := .int _ _) rfl) ?_
      refine QL.y rfl (y_ixa sT26 (fun _ hC => (hr.1.ext hE02).ext hC) (k := k) (hr.lt hks) rfl rfl) ?_
      refine QL.y rfl (y_load sc29 (fun _ hC => (hr.1.ext hE02).ext hC) (hr.at hks) rfl) ?_
      refine QL.y rfl (y_mov (by conv => lhs; whnf)) ?_
      refine QL.y rfl (y_mov (v := .int _ _) rfl) ?_
      refine QL.y rfl (y_ixa sT29 (fun _ hC => (hu.ext hE02).ext hC) (k := k) (ints_lt hltk) rfl rfl) ?_
      refine QL.y rfl (y_load sc2 (fun _ hC => (hu.ext hE02).ext hC) (ints_at hltk) rfl) ?_
      refine QL.y rfl (y_mov (v := .int _ _) rfl) ?_
      refine QL.y rfl (y_mov (v := .int _ _) rfl) ?_
      refine QL.call rfl (fun _ hC => qs hC (l08Cut_any (((hr.row hks).ext hE02).ext hC) hrs hck ha)) ?_
      refine QL.y rfl (y_mov (by conv => lhs; whnf)) ?_
      refine QL.y rfl (y_ext0 rfl) ?_
      refine QL.y rfl (y_ext1 rfl) ?_
      refine QL.y rfl (y_asg (v := .bool _) rfl) ?_
      refine QL.y rfl (y_asg (v := .bool _) rfl) ?_
      refine QL.nil (fun w3 hE3 => ?_)
      refine Fin.next ?_
      refine CW.seq ?_
      refine CW.region ?_
      refine RL.y rfl (y_mov (v := .bool _) rfl) ?_
      refine RL.y rfl (y_mov (v := .bool _) rfl) ?_
      refine RL.split (t := 37) rfl rfl (fun h2 => ?_) (fun h2 => ?_)
      · with_reducible first | (replace h2 := deNF h2) | (replace h2 := of_decide_eq_true h2) | (replace h2 := of_decide_eq_false h2) | (replace h2 := deNT h2) | (replace h2 := deNN h2) | (replace h2 := bnT h2) | (replace h2 := bnF h2) | skip
        refine RL.take (t := 37) rfl rfl rfl ?_
        refine RL.y rfl (y_mov (v := .bool _) rfl) ?_
        refine RL.y rfl (y_pickT (v := .bool _) rfl rfl) ?_
        refine RL.y rfl (y_asg (v := .bool _) rfl) ?_
        refine RL.nil ?_
        refine Fin.next ?_
        refine CW.region ?_
        refine RL.y rfl (y_mov (v := .bool _) rfl) ?_
        refine RL.y rfl (y_mov (v := .bool _) rfl) ?_
        refine RL.split (t := 41) rfl rfl (fun h3 => ?_) (fun h3 => ?_)
        · with_reducible first | (replace h3 := deNF h3) | (replace h3 := of_decide_eq_true h3) | (replace h3 := of_decide_eq_false h3) | (replace h3 := deNT h3) | (replace h3 := deNN h3) | (replace h3 := bnT h3) | (replace h3 := bnF h3) | skip
          refine RL.take (t := 41) rfl rfl rfl ?_
          refine RL.y rfl (y_mov (v := .bool _) rfl) ?_
          refine RL.y rfl (y_pickT (v := .bool _) rfl rfl) ?_
          refine RL.y rfl (y_asg (v := .bool _) rfl) ?_
          refine RL.nil ?_
          refine Fin.blockNormal ?_
          refine Fin.next ?_
          refine CW.region ?_
          refine RL.y rfl (y_mov (v := .int _ _) rfl) ?_
          refine RL.y rfl (y_add rfl rfl (IntWalk.i64_in _ (by omega))) ?_
          refine RL.y rfl (y_asg (v := .int _ _) rfl) ?_
          refine RL.nil ?_
          refine Fin.le ?_
          exact ⟨cs.length - (k + 1), by omega, k + 1, rfl, hltk, ⟨rfl, rfl, rfl, rfl, congrArg Value.bool (decide_eq_decide.2 ⟨fun h => hm1.2 ⟨h2, h⟩, fun h => (hm1.1 h).2⟩), congrArg Value.bool (decide_eq_decide.2 ⟨fun h => hs1.2 ⟨h3, h⟩, fun h => (hs1.1 h).2⟩), rfl, trivial⟩, hE2.trans hE3⟩
        · with_reducible first | (replace h3 := deNF h3) | (replace h3 := of_decide_eq_true h3) | (replace h3 := of_decide_eq_false h3) | (replace h3 := deNT h3) | (replace h3 := deNN h3) | (replace h3 := bnT h3) | (replace h3 := bnF h3) | skip
          refine RL.pass (t := 41) rfl rfl rfl rfl ?_
          refine RL.y rfl (y_pickF (v := .bool _) rfl rfl) ?_
          refine RL.y rfl (y_asg (v := .bool _) rfl) ?_
          refine RL.nil ?_
          refine Fin.blockNormal ?_
          refine Fin.next ?_
          refine CW.region ?_
          refine RL.y rfl (y_mov (v := .int _ _) rfl) ?_
          refine RL.y rfl (y_add rfl rfl (IntWalk.i64_in _ (by omega))) ?_
          refine RL.y rfl (y_asg (v := .int _ _) rfl) ?_
          refine RL.nil ?_
          refine Fin.le ?_
          exact ⟨cs.length - (k + 1), by omega, k + 1, rfl, hltk, ⟨rfl, rfl, rfl, rfl, congrArg Value.bool (decide_eq_decide.2 ⟨fun h => hm1.2 ⟨h2, h⟩, fun h => (hm1.1 h).2⟩), congrArg Value.bool (decide_eq_false (fun h => h3 (hs1.1 h).1)).symm, rfl, trivial⟩, hE2.trans hE3⟩
      · with_reducible first | (replace h2 := deNF h2) | (replace h2 := of_decide_eq_true h2) | (replace h2 := of_decide_eq_false h2) | (replace h2 := deNT h2) | (replace h2 := deNN h2) | (replace h2 := bnT h2) | (replace h2 := bnF h2) | skip
        refine RL.pass (t := 37) rfl rfl rfl rfl ?_
        refine RL.y rfl (y_pickF (v := .bool _) rfl rfl) ?_
        refine RL.y rfl (y_asg (v := .bool _) rfl) ?_
        refine RL.nil ?_
        refine Fin.next ?_
        refine CW.region ?_
        refine RL.y rfl (y_mov (v := .bool _) rfl) ?_
        refine RL.y rfl (y_mov (v := .bool _) rfl) ?_
        refine RL.split (t := 41) rfl rfl (fun h3 => ?_) (fun h3 => ?_)
        · with_reducible first | (replace h3 := deNF h3) | (replace h3 := of_decide_eq_true h3) | (replace h3 := of_decide_eq_false h3) | (replace h3 := deNT h3) | (replace h3 := deNN h3) | (replace h3 := bnT h3) | (replace h3 := bnF h3) | skip
          refine RL.take (t := 41) rfl rfl rfl ?_
          refine RL.y rfl (y_mov (v := .bool _) rfl) ?_
          refine RL.y rfl (y_pickT (v := .bool _) rfl rfl) ?_
          refine RL.y rfl (y_asg (v := .bool _) rfl) ?_
          refine RL.nil ?_
          refine Fin.blockNormal ?_
          refine Fin.next ?_
          refine CW.region ?_
          refine RL.y rfl (y_mov (v := .int _ _) rfl) ?_
          refine RL.y rfl (y_add rfl rfl (IntWalk.i64_in _ (by omega))) ?_
          refine RL.y rfl (y_asg (v := .int _ _) rfl) ?_
          refine RL.nil ?_
          refine Fin.le ?_
          exact ⟨cs.length - (k + 1), by omega, k + 1, rfl, hltk, ⟨rfl, rfl, rfl, rfl, congrArg Value.bool (decide_eq_false (fun h => h2 (hm1.1 h).1)).symm, congrArg Value.bool (decide_eq_decide.2 ⟨fun h => hs1.2 ⟨h3, h⟩, fun h => (hs1.1 h).2⟩), rfl, trivial⟩, hE2.trans hE3⟩
        · with_reducible first | (replace h3 := deNF h3) | (replace h3 := of_decide_eq_true h3) | (replace h3 := of_decide_eq_false h3) | (replace h3 := deNT h3) | (replace h3 := deNN h3) | (replace h3 := bnT h3) | (replace h3 := bnF h3) | skip
          refine RL.pass (t := 41) rfl rfl rfl rfl ?_
          refine RL.y rfl (y_pickF (v := .bool _) rfl rfl) ?_
          refine RL.y rfl (y_asg (v := .bool _) rfl) ?_
          refine RL.nil ?_
          refine Fin.blockNormal ?_
          refine Fin.next ?_
          refine CW.region ?_
          refine RL.y rfl (y_mov (v := .int _ _) rfl) ?_
          refine RL.y rfl (y_add rfl rfl (IntWalk.i64_in _ (by omega))) ?_
          refine RL.y rfl (y_asg (v := .int _ _) rfl) ?_
          refine RL.nil ?_
          refine Fin.le ?_
          exact ⟨cs.length - (k + 1), by omega, k + 1, rfl, hltk, ⟨rfl, rfl, rfl, rfl, congrArg Value.bool (decide_eq_false (fun h => h2 (hm1.1 h).1)).symm, congrArg Value.bool (decide_eq_false (fun h => h3 (hs1.1 h).1)).symm, rfl, trivial⟩, hE2.trans hE3⟩
    · with_reducible first | (replace hck := deNF hck) | (replace hck := of_decide_eq_true hck) | (replace hck := of_decide_eq_false hck) | (replace hck := deNT hck) | (replace hck := deNN hck) | (replace hck := bnT hck) | (replace hck := bnF hck) | skip
      obtain rfl : cs.length = k := by omega
      refine CW.exit ?_
      refine Fin.thenExit ?_
      refine Fin.thenExit ?_
      refine Fin.blockHit ?_
      refine Fin.next ?_
      refine CW.seq ?_
      refine CW.region ?_
      refine RL.y rfl (y_mov (v := .bool _) rfl) ?_
      refine RL.y rfl (y_mov (v := .bool _) rfl) ?_
      refine RL.y rfl (y_asg (v := .bool _) rfl) ?_
      refine RL.y rfl (y_asg (v := .bool _) rfl) ?_
      refine RL.nil ?_
      refine Fin.next ?_
      refine CW.ret ?_
      refine Fin.ret2 rfl (by conv => lhs; whnf) (by conv => lhs; whnf) ?_
      exact ⟨_, rfl, rfl, hE1.trans hE2⟩

theorem surelyOpens_any {w : World} {v u : Value} {ss : List (List Int)} {cs : List Int} {a t : Int} (hv : RdL w v ss) (hu : SI w u cs) (hl : cs.length ≤ ss.length) (hs : ∀ r ∈ ss, sm8 r) (hc : sm8 cs) (ha : 0 ≤ a ∧ a ≤ 19) :
    Does Try.prog 50 #[v, u, .int .i64 a, .int .i64 t] w (fun r w' => r = .bool (decide (surTo ss cs (a + 1).toNat t cs.length)) ∧ Ext w w') := by
  obtain ⟨vl, rfl, vs, hr⟩ := hv
  have hul := SI.le hu
  refine enter Try.func50 rfl 30 Try.ntmps50 rfl (by kernel_rfl) ?_
  refine CW.seq ?_
  refine CW.region ?_
  refine RL.box (cs := [vl]) rfl rfl rfl (fun w1 hV hE1 => ?_)
  refine RL.y rfl (y_asg rfl) ?_
  refine RL.nil ?_
  refine Fin.next ?_
  refine CW.seq ?_
  refine CW.seq ?_
  refine CW.region ?_
  refine RL.y rfl (y_mov (by conv => lhs; whnf)) ?_
  refine RL.y rfl (y_len sT29 hu (ints_len _) rfl) ?_
  refine RL.y rfl (y_mov rfl) ?_
  refine RL.nil ?_
  refine Fin.next ?_
  refine CW.block ?_
  refine CW.loop (fun m E w' => ∃ k : Nat, m = cs.length - k ∧ k ≤ cs.length ∧ agrees E [(4, .pointer (some ⟨w.heap.size, 0, none⟩)), (2, .int .i64 a), (3, .int .i64 t), (11, u), (12, .int .i64 cs.length), (13, .int .i64 (k : Int))] ∧ surTo ss cs (a + 1).toNat t k ∧ Ext w1 w') _ ⟨0, rfl, Nat.zero_le _, ⟨rfl, rfl, rfl, rfl, rfl, rfl, trivial⟩, (fun i hi => absurd hi (Nat.not_lt_zero i)), Ext.refl _⟩ ?_
  · rintro m E w2 ⟨k, rfl, hkk, hagk, hsu, hE2⟩
    refine CW.re _ hagk rfl ?_
    clear hagk
    refine CW.seq ?_
    refine CW.region ?_
    refine RL.y rfl (y_lt rfl rfl) ?_
    refine RL.nil ?_
    refine Fin.next ?_
    refine CW.seq ?_
    refine CW.cond rfl rfl (fun hck => ?_) (fun hck => ?_)
    · with_reducible first | (replace hck := deNF hck) | (replace hck := of_decide_eq_true hck) | (replace hck := of_decide_eq_false hck) | (replace hck := deNT hck) | (replace hck := deNN hck) | (replace hck := bnT hck) | (replace hck := bnF hck) | skip
      have hltk : k < cs.length := by omega
      have hE02 := hE1.trans hE2
      have hks : k < ss.length := by omega
      have hrs := hs _ (List.getElem_mem hks)
      have hck := hc _ (List.getElem_mem hltk)
      have g1 : ss.getD k [] = ss[k] := getD_lt hks
      have g2 : cs.getD k 0 = cs[k] := getD_lt hltk
      have hcn := cnt_le ss[k] cs[k] t (a + 1).toNat
      refine CW.skip ?_
      refine Fin.next ?_
      refine CW.seq ?_
      refine CW.block ?_
      refine CW.seq ?_
      refine CW.region ?_
      refine RL.y rfl (y_mov (v := .int _ _) rfl) ?_
      refine RL.y rfl (y_ixa sT29 (eqw (hu.ext hE02)) (k := k) (ints_lt hltk) rfl rfl) ?_
      refine RL.y rfl (y_load sc2 (eqw (hu.ext hE02)) (ints_at hltk) rfl) ?_
      refine RL.y rfl (y_asg (v := .int _ _) rfl) ?_
      refine RL.y rfl (y_asg (v := .int _ _) rfl) ?_
      refine RL.nil ?_
      refine Fin.next ?_
      refine CW.seq ?_
      refine CW.region ?_
      refine RL.y rfl (y_fa fa28_0 rfl rfl) ?_
      refine RL.y rfl (y_loadv sc26 (eqw (hV.ext hE2)) rfl rfl) ?_
      refine RL.y rfl (y_mov (v := .int _ _) rfl) ?_
      refine RL.y rfl (y_ixa sT26 (eqw (hr.1.ext hE02)) (k := k) (hr.lt hks) rfl rfl) ?_
      refine RL.y rfl (y_load sc29 (eqw (hr.1.ext hE02)) (hr.at hks) rfl) ?_
      refine RL.y rfl (y_mov (v := .int _ _) rfl) ?_
      refine RL.y rfl (y_mov (v := .int _ _) rfl) ?_
      refine RL.y rfl (y_mov (v := .int _ _) rfl) ?_
      refine RL.call rfl (freePlaces_any ((hr.row hks).ext hE02) hrs hck ha) ?_
      rintro r w3 ⟨rfl, hE3⟩
      refine RL.y rfl (y_mov (v := .int _ _) rfl) ?_
      refine RL.y rfl (y_le rfl rfl) ?_
      refine RL.nil ?_
      refine Fin.next ?_
      refine CW.cond rfl rfl (fun h2 => ?_) (fun h2 => ?_)
      · with_reducible first | (replace h2 := deNF h2) | (replace h2 := of_decide_eq_true h2) | (replace h2 := of_decide_eq_false h2) | (replace h2 := deNT h2) | (replace h2 := deNN h2) | (replace h2 := bnT h2) | (replace h2 := bnF h2) | skip
        refine CW.seq ?_
        refine CW.region ?_
        refine RL.y rfl (y_asg rfl) ?_
        refine RL.nil ?_
        refine Fin.next ?_
        refine CW.ret ?_
        refine Fin.blockRet ?_
        refine Fin.thenRet ?_
        refine Fin.thenRet ?_
        refine Fin.blockRet ?_
        refine Fin.thenRet ?_
        refine Fin.ret1 rfl (by conv => lhs; whnf) ?_
        exact ⟨_, rfl, bF (fun h => by have := h k hltk; rw [g1, g2] at this; omega), hE02.trans hE3⟩
      · with_reducible first | (replace h2 := deNF h2) | (replace h2 := of_decide_eq_true h2) | (replace h2 := of_decide_eq_false h2) | (replace h2 := deNT h2) | (replace h2 := deNN h2) | (replace h2 := bnT h2) | (replace h2 := bnF h2) | skip
        refine CW.skip ?_
        refine Fin.blockNormal ?_
        refine Fin.next ?_
        refine CW.region ?_
        refine RL.y rfl (y_add rfl rfl (IntWalk.i64_in _ (by omega))) ?_
        refine RL.y rfl (y_mov (v := .int _ _) rfl) ?_
        refine RL.nil ?_
        refine Fin.le ?_
        exact ⟨cs.length - (k + 1), by omega, k + 1, rfl, hltk, ⟨rfl, rfl, rfl, rfl, rfl, rfl, trivial⟩, sur_succ.2 ⟨hsu, by rw [g1, g2]; omega⟩, hE2.trans hE3⟩
    · with_reducible first | (replace hck := deNF hck) | (replace hck := of_decide_eq_true hck) | (replace hck := of_decide_eq_false hck) | (replace hck := deNT hck) | (replace hck := deNN hck) | (replace hck := bnT hck) | (replace hck := bnF hck) | skip
      obtain rfl : cs.length = k := by omega
      refine CW.exit ?_
      refine Fin.thenExit ?_
      refine Fin.thenExit ?_
      refine Fin.blockHit ?_
      refine Fin.next ?_
      refine CW.seq ?_
      refine CW.region ?_
      refine RL.y rfl (y_asg rfl) ?_
      refine RL.nil ?_
      refine Fin.next ?_
      refine CW.ret ?_
      refine Fin.ret1 rfl (by conv => lhs; whnf) ?_
      exact ⟨_, rfl, bT hsu, hE1.trans hE2⟩
end Go.Proofs.Ytaepdknmagaokaa
