/-
  The laws' own comparisons of lists, buildings and plans.
-/
import Derived.Test.YtkkeipogkjlneaaFPln5
import Derived.Test.YtkkeipogkjlneaaFRise
namespace Go.Proofs.Ytkkeipogkjlneaa
open B Go.RowKit

theorem RdP.rw3 {w : World} {a b c : Value} {ps : List Int} {ds : List Bool} {rs : List (List Int)} (h : RdP w (.agg #[a, b, c]) ps ds rs) : RdSS w c rs := by
  obtain ⟨vp, vd, vr, e, _, h2⟩ := h
  obtain ⟨rfl, rfl, rfl⟩ : a = vp ∧ b = vd ∧ c = vr := by simpa using e
  exact h2
theorem RdP.bl2 {w : World} {a b c : Value} {ps : List Int} {ds : List Bool} {rs : List (List Int)} (h : RdP w (.agg #[a, b, c]) ps ds rs) : RdB w (.agg #[a, b]) ps ds := by
  obtain ⟨vp, vd, vr, e, h2, _⟩ := h
  obtain ⟨rfl, rfl, rfl⟩ : a = vp ∧ b = vd ∧ c = vr := by simpa using e
  exact h2

theorem likeBools_any {w : World} {v u : Value} {xs ys : List Bool} (hv : SB w v xs) (hu : SB w u ys) :
    Does Try.prog 126 #[v, u] w (fun r w' => r = .bool (decide (xs = ys)) ∧ Ext w w') := by
  have hxl := SV.le hv
  rw [bools_len] at hxl
  refine enter Try.func126 rfl 26 Try.ntmps126 rfl (by kernel_rfl) ?_
  refine CW.seq ?_
  refine CW.region ?_
  refine RL.y rfl (y_asg rfl) ?_
  refine RL.nil ?_
  refine Fin.next ?_
  refine CW.seq ?_
  refine CW.seq ?_
  refine CW.region ?_
  refine RL.y rfl (y_mov (by conv => lhs; whnf)) ?_
  refine RL.y rfl (y_len sT23 hv (bools_len _) rfl) ?_
  refine RL.y rfl (y_mov (by conv => lhs; whnf)) ?_
  refine RL.y rfl (y_len sT23 hu (bools_len _) rfl) ?_
  refine RL.y rfl (y_ne rfl rfl) ?_
  refine RL.nil ?_
  refine Fin.next ?_
  refine CW.cond rfl rfl (fun hc => ?_) (fun hc => ?_)
  · with_reducible first | (replace hc := deNF hc) | (replace hc := of_decide_eq_true hc) | (replace hc := of_decide_eq_false hc) | (replace hc := deNT hc) | (replace hc := deNN hc) | (replace hc := bnT hc) | (replace hc := bnF hc) | skip
    refine CW.seq ?_
    refine CW.region ?_
    refine RL.y rfl (y_asg rfl) ?_
    refine RL.nil ?_
    refine Fin.next ?_
    refine CW.ret ?_
    refine Fin.thenRet ?_
    refine Fin.ret1 rfl (by conv => lhs; whnf) ?_
    exact ⟨_, rfl, congrArg Value.bool (Eq.symm (decide_eq_false (fun e => by subst e; exact hc rfl))), Ext.refl w⟩
  · with_reducible first | (replace hc := deNF hc) | (replace hc := of_decide_eq_true hc) | (replace hc := of_decide_eq_false hc) | (replace hc := deNT hc) | (replace hc := deNN hc) | (replace hc := bnT hc) | (replace hc := bnF hc) | skip
    have hl : xs.length = ys.length := by omega
    refine CW.skip ?_
    refine Fin.next ?_
    refine CW.seq ?_
    refine CW.seq ?_
    refine CW.region ?_
    refine RL.y rfl (y_asg rfl) ?_
    refine RL.nil ?_
    refine Fin.next ?_
    refine CW.block ?_
    refine CW.loop (fun m E w' => ∃ k : Nat, m = xs.length - k ∧ k ≤ xs.length ∧ agrees E [(0, v), (1, u), (5, .int .i64 (k : Int))] ∧ xs.take k = ys.take k ∧ Ext w w') _ ⟨0, rfl, Nat.zero_le _, ⟨rfl, rfl, rfl, trivial⟩, rfl, Ext.refl w⟩ ?_
    · rintro m E w2 ⟨k, rfl, hkk, hagk, htk, hE2⟩
      refine CW.re _ hagk rfl ?_
      clear hagk
      refine CW.seq ?_
      refine CW.seq ?_
      refine CW.region ?_
      refine RL.y rfl (y_mov (v := .int _ _) rfl) ?_
      refine RL.y rfl (y_mov (by conv => lhs; whnf)) ?_
      refine RL.y rfl (y_len sT23 hv (bools_len _) rfl) ?_
      refine RL.y rfl (y_lt rfl rfl) ?_
      refine RL.nil ?_
      refine Fin.next ?_
      refine CW.cond rfl rfl (fun hck => ?_) (fun hck => ?_)
      · with_reducible first | (replace hck := deNF hck) | (replace hck := of_decide_eq_true hck) | (replace hck := of_decide_eq_false hck) | (replace hck := deNT hck) | (replace hck := deNN hck) | (replace hck := bnT hck) | (replace hck := bnF hck) | skip
        have hltk : k < xs.length := by omega
        have hlt' : k < ys.length := by omega
        refine CW.skip ?_
        refine Fin.next ?_
        refine CW.seq ?_
        refine CW.block ?_
        refine CW.seq ?_
        refine CW.quietE mixed (by kernel_rfl) ?_
        refine QL.y rfl (y_mov (by conv => lhs; whnf)) ?_
        refine QL.y rfl (y_mov (v := .int _ _) rfl) ?_
        refine QL.y rfl (y_ixa sT23 (fun _ hC => (hv.ext hE2).ext hC) (k := k) (bools_lt hltk) rfl rfl) ?_
        refine QL.y rfl (y_load sc4 (fun _ hC => (hv.ext hE2).ext hC) (bools_at hltk) rfl) ?_
        refine QL.y rfl (y_mov (by conv => lhs; whnf)) ?_
        refine QL.y rfl (y_mov (v := .int _ _) rfl) ?_
        refine QL.y rfl (y_ixa sT23 (fun _ hC => (hu.ext hE2).ext hC) (k := k) (bools_lt hlt') rfl rfl) ?_
        refine QL.y rfl (y_load sc4 (fun _ hC => (hu.ext hE2).ext hC) (bools_at hlt') rfl) ?_
        refine QL.y rfl (y_bne Try.underlying4 rfl rfl) ?_
        refine QL.nil (fun w3 hE3 => ?_)
        refine Fin.next ?_
        refine CW.cond rfl rfl (fun hc3 => ?_) (fun hc3 => ?_)
        · with_reducible first | (replace hc3 := deNF hc3) | (replace hc3 := of_decide_eq_true hc3) | (replace hc3 := of_decide_eq_false hc3) | (replace hc3 := deNT hc3) | (replace hc3 := deNN hc3) | (replace hc3 := bnT hc3) | (replace hc3 := bnF hc3) | skip
          have hne : xs[k] ≠ ys[k] := by simpa using hc3
          refine CW.seq ?_
          refine CW.region ?_
          refine RL.y rfl (y_asg rfl) ?_
          refine RL.nil ?_
          refine Fin.next ?_
          refine CW.ret ?_
          refine Fin.blockRet ?_
          refine Fin.thenRet ?_
          refine Fin.thenRet ?_
          refine Fin.blockRet ?_
          refine Fin.thenRet ?_
          refine Fin.ret1 rfl (by conv => lhs; whnf) ?_
          exact ⟨_, rfl, congrArg Value.bool (Eq.symm (decide_eq_false (fun e => by subst e; exact hne rfl))), hE2.trans hE3⟩
        · with_reducible first | (replace hc3 := deNF hc3) | (replace hc3 := of_decide_eq_true hc3) | (replace hc3 := of_decide_eq_false hc3) | (replace hc3 := deNT hc3) | (replace hc3 := deNN hc3) | (replace hc3 := bnT hc3) | (replace hc3 := bnF hc3) | skip
          have he : xs[k] = ys[k] := by simpa using hc3
          refine CW.skip ?_
          refine Fin.blockNormal ?_
          refine Fin.next ?_
          refine CW.region ?_
          refine RL.y rfl (y_mov (v := .int _ _) rfl) ?_
          refine RL.y rfl (y_add rfl rfl (IntWalk.i64_in _ (by omega))) ?_
          refine RL.y rfl (y_asg (v := .int _ _) rfl) ?_
          refine RL.nil ?_
          refine Fin.le ?_
          exact ⟨xs.length - (k + 1), by omega, k + 1, rfl, hltk, ⟨rfl, rfl, rfl, trivial⟩, by rw [List.take_succ_eq_append_getElem hltk, List.take_succ_eq_append_getElem hlt', htk, he], hE2.trans hE3⟩
      · with_reducible first | (replace hck := deNF hck) | (replace hck := of_decide_eq_true hck) | (replace hck := of_decide_eq_false hck) | (replace hck := deNT hck) | (replace hck := deNN hck) | (replace hck := bnT hck) | (replace hck := bnF hck) | skip
        obtain rfl : xs.length = k := by omega
        refine CW.exit ?_
        refine Fin.thenExit ?_
        refine Fin.thenExit ?_
        refine Fin.blockHit ?_
        refine Fin.next ?_
        refine CW.seq ?_
        refine CW.region ?_
        refine RL.y rfl (y_asg rfl) ?_
        refine RL.nil ?_
        refine Fin.next ?_
        refine CW.ret ?_
        refine Fin.ret1 rfl (by conv => lhs; whnf) ?_
        exact ⟨_, rfl, congrArg Value.bool (Eq.symm (decide_eq_true (by rw [List.take_length] at htk; rw [htk, hl, List.take_length]))), hE2⟩

theorem likeLists_any {w : World} {v u : Value} {rs qs : List (List Int)} (hv : RdSS w v rs) (hu : RdSS w u qs) :
    Does Try.prog 59 #[v, u] w (fun r w' => r = .bool (decide (rs = qs)) ∧ Ext w w') := by
  obtain ⟨cs, hc⟩ := hv
  obtain ⟨ds, hd⟩ := hu
  have hxl := hc.le
  refine enter Try.func59 rfl 27 Try.ntmps59 rfl (by kernel_rfl) ?_
  refine CW.seq ?_
  refine CW.region ?_
  refine RL.y rfl (y_asg rfl) ?_
  refine RL.nil ?_
  refine Fin.next ?_
  refine CW.seq ?_
  refine CW.seq ?_
  refine CW.region ?_
  refine RL.y rfl (y_mov (by conv => lhs; whnf)) ?_
  refine RL.y rfl (y_len sT26 hc.1 hc.2.1 rfl) ?_
  refine RL.y rfl (y_mov (by conv => lhs; whnf)) ?_
  refine RL.y rfl (y_len sT26 hd.1 hd.2.1 rfl) ?_
  refine RL.y rfl (y_ne rfl rfl) ?_
  refine RL.nil ?_
  refine Fin.next ?_
  refine CW.cond rfl rfl (fun hcl => ?_) (fun hcl => ?_)
  · with_reducible first | (replace hcl := deNF hcl) | (replace hcl := of_decide_eq_true hcl) | (replace hcl := of_decide_eq_false hcl) | (replace hcl := deNT hcl) | (replace hcl := deNN hcl) | (replace hcl := bnT hcl) | (replace hcl := bnF hcl) | skip
    refine CW.seq ?_
    refine CW.region ?_
    refine RL.y rfl (y_asg rfl) ?_
    refine RL.nil ?_
    refine Fin.next ?_
    refine CW.ret ?_
    refine Fin.thenRet ?_
    refine Fin.ret1 rfl (by conv => lhs; whnf) ?_
    exact ⟨_, rfl, congrArg Value.bool (Eq.symm (decide_eq_false (fun e => by subst e; exact hcl rfl))), Ext.refl w⟩
  · with_reducible first | (replace hcl := deNF hcl) | (replace hcl := of_decide_eq_true hcl) | (replace hcl := of_decide_eq_false hcl) | (replace hcl := deNT hcl) | (replace hcl := deNN hcl) | (replace hcl := bnT hcl) | (replace hcl := bnF hcl) | skip
    have hl : rs.length = qs.length := by omega
    refine CW.skip ?_
    refine Fin.next ?_
    refine CW.seq ?_
    refine CW.seq ?_
    refine CW.region ?_
    refine RL.y rfl (y_asg rfl) ?_
    refine RL.nil ?_
    refine Fin.next ?_
    refine CW.block ?_
    refine CW.loop (fun m E w' => ∃ k : Nat, m = rs.length - k ∧ k ≤ rs.length ∧ agrees E [(0, v), (1, u), (5, .int .i64 (k : Int))] ∧ rs.take k = qs.take k ∧ Ext w w') _ ⟨0, rfl, Nat.zero_le _, ⟨rfl, rfl, rfl, trivial⟩, rfl, Ext.refl w⟩ ?_
    · rintro m E w2 ⟨k, rfl, hkk, hagk, htk, hE2⟩
      refine CW.re _ hagk rfl ?_
      clear hagk
      refine CW.seq ?_
      refine CW.seq ?_
      refine CW.region ?_
      refine RL.y rfl (y_mov (v := .int _ _) rfl) ?_
      refine RL.y rfl (y_mov (by conv => lhs; whnf)) ?_
      refine RL.y rfl (y_len sT26 hc.1 hc.2.1 rfl) ?_
      refine RL.y rfl (y_lt rfl rfl) ?_
      refine RL.nil ?_
      refine Fin.next ?_
      refine CW.cond rfl rfl (fun hck => ?_) (fun hck => ?_)
      · with_reducible first | (replace hck := deNF hck) | (replace hck := of_decide_eq_true hck) | (replace hck := of_decide_eq_false hck) | (replace hck := deNT hck) | (replace hck := deNN hck) | (replace hck := bnT hck) | (replace hck := bnF hck) | skip
        have hltk : k < rs.length := by omega
        have hlt' : k < qs.length := by omega
        refine CW.skip ?_
        refine Fin.next ?_
        refine CW.seq ?_
        refine CW.block ?_
        refine CW.seq ?_
        refine CW.quietE mixed (by kernel_rfl) ?_
        refine QL.y rfl (y_mov (by conv => lhs; whnf)) ?_
        refine QL.y rfl (y_mov (v := .int _ _) rfl) ?_
        refine QL.y rfl (y_ixa sT26 (fun _ hC => (hc.1.ext hE2).ext hC) (k := k) (hc.lt hltk) rfl rfl) ?_
        refine QL.y rfl (y_load sc22 (fun _ hC => (hc.1.ext hE2).ext hC) (hc.at hltk) rfl) ?_
        refine QL.y rfl (y_mov (by conv => lhs; whnf)) ?_
        refine QL.y rfl (y_mov (v := .int _ _) rfl) ?_
        refine QL.y rfl (y_ixa sT26 (fun _ hC => (hd.1.ext hE2).ext hC) (k := k) (hd.lt hlt') rfl rfl) ?_
        refine QL.y rfl (y_load sc22 (fun _ hC => (hd.1.ext hE2).ext hC) (hd.at hlt') rfl) ?_
        refine QL.call rfl (fun _ hC => qc hC (likeInts_any (((hc.row hltk).ext hE2).ext hC) (((hd.row hlt').ext hE2).ext hC))) ?_
        refine QL.y rfl (y_not rfl) ?_
        refine QL.nil (fun w3 hE3 => ?_)
        refine Fin.next ?_
        refine CW.cond rfl rfl (fun hc3 => ?_) (fun hc3 => ?_)
        · with_reducible first | (replace hc3 := deNF hc3) | (replace hc3 := of_decide_eq_true hc3) | (replace hc3 := of_decide_eq_false hc3) | (replace hc3 := deNT hc3) | (replace hc3 := deNN hc3) | (replace hc3 := bnT hc3) | (replace hc3 := bnF hc3) | skip
          refine CW.seq ?_
          refine CW.region ?_
          refine RL.y rfl (y_asg rfl) ?_
          refine RL.nil ?_
          refine Fin.next ?_
          refine CW.ret ?_
          refine Fin.blockRet ?_
          refine Fin.thenRet ?_
          refine Fin.thenRet ?_
          refine Fin.blockRet ?_
          refine Fin.thenRet ?_
          refine Fin.ret1 rfl (by conv => lhs; whnf) ?_
          exact ⟨_, rfl, congrArg Value.bool (Eq.symm (decide_eq_false (fun e => by subst e; exact hc3 rfl))), hE2.trans hE3⟩
        · with_reducible first | (replace hc3 := deNF hc3) | (replace hc3 := of_decide_eq_true hc3) | (replace hc3 := of_decide_eq_false hc3) | (replace hc3 := deNT hc3) | (replace hc3 := deNN hc3) | (replace hc3 := bnT hc3) | (replace hc3 := bnF hc3) | skip
          refine CW.skip ?_
          refine Fin.blockNormal ?_
          refine Fin.next ?_
          refine CW.region ?_
          refine RL.y rfl (y_mov (v := .int _ _) rfl) ?_
          refine RL.y rfl (y_add rfl rfl (IntWalk.i64_in _ (by omega))) ?_
          refine RL.y rfl (y_asg (v := .int _ _) rfl) ?_
          refine RL.nil ?_
          refine Fin.le ?_
          exact ⟨rs.length - (k + 1), by omega, k + 1, rfl, hltk, ⟨rfl, rfl, rfl, trivial⟩, by rw [List.take_succ_eq_append_getElem hltk, List.take_succ_eq_append_getElem hlt', htk, hc3], hE2.trans hE3⟩
      · with_reducible first | (replace hck := deNF hck) | (replace hck := of_decide_eq_true hck) | (replace hck := of_decide_eq_false hck) | (replace hck := deNT hck) | (replace hck := deNN hck) | (replace hck := bnT hck) | (replace hck := bnF hck) | skip
        obtain rfl : rs.length = k := by omega
        refine CW.exit ?_
        refine Fin.thenExit ?_
        refine Fin.thenExit ?_
        refine Fin.blockHit ?_
        refine Fin.next ?_
        refine CW.seq ?_
        refine CW.region ?_
        refine RL.y rfl (y_asg rfl) ?_
        refine RL.nil ?_
        refine Fin.next ?_
        refine CW.ret ?_
        refine Fin.ret1 rfl (by conv => lhs; whnf) ?_
        exact ⟨_, rfl, congrArg Value.bool (Eq.symm (decide_eq_true (by rw [List.take_length] at htk; rw [htk, hl, List.take_length]))), hE2⟩

theorem likeBuildings_any {w : World} {b c : Value} {ps qs : List Int} {ds es : List Bool} (hb : RdB w b ps ds) (hc : RdB w c qs es) :
    Does Try.prog 104 #[b, c] w (fun r w' => r = .bool (decide (ps = qs ∧ ds = es)) ∧ Ext w w') := by
  obtain ⟨vp, vd, rfl, hp, hd⟩ := hb
  obtain ⟨up, ud, rfl, hq, he⟩ := hc
  refine enter Try.func104 rfl 17 Try.ntmps104 rfl (by kernel_rfl) ?_
  refine CW.seq ?_
  refine CW.region ?_
  refine RL.box (cs := [vp, vd]) rfl rfl rfl (fun w1 hV1 hE1 => ?_)
  refine RL.box (cs := [up, ud]) rfl rfl rfl (fun w2 hV2 hE2 => ?_)
  have hE12 := hE1.trans hE2
  refine RL.y rfl (y_asg rfl) ?_
  refine RL.nil ?_
  refine Fin.next ?_
  refine CW.seq ?_
  refine CW.region ?_
  refine RL.y rfl (y_fa fa31_0 rfl rfl) ?_
  refine RL.y rfl (y_loadv sc22 (eqw (hV1.ext hE2)) rfl rfl) ?_
  refine RL.y rfl (y_fa fa31_0 rfl rfl) ?_
  refine RL.y rfl (y_loadv sc22 (eqw (hV2)) rfl rfl) ?_
  refine RL.call rfl (likeInts_any (hp.ext hE12) (hq.ext hE12)) ?_
  rintro r w3 ⟨rfl, hE3⟩
  have hE13 := hE12.trans hE3
  refine RL.y rfl (y_mov (v := .bool _) rfl) ?_
  refine RL.split (t := 10) rfl rfl (fun h1 => ?_) (fun h1 => ?_)
  · with_reducible first | (replace h1 := deNF h1) | (replace h1 := of_decide_eq_true h1) | (replace h1 := of_decide_eq_false h1) | (replace h1 := deNT h1) | (replace h1 := deNN h1) | (replace h1 := bnT h1) | (replace h1 := bnF h1) | skip
    refine RL.take (t := 10) rfl rfl rfl ?_
    refine RL.y rfl (y_fa fa31_1 rfl rfl) ?_
    refine RL.take (t := 10) rfl rfl rfl ?_
    refine RL.y rfl (y_loadv sc23 (eqw ((hV1.ext hE2).ext hE3)) rfl rfl) ?_
    refine RL.take (t := 10) rfl rfl rfl ?_
    refine RL.y rfl (y_fa fa31_1 rfl rfl) ?_
    refine RL.take (t := 10) rfl rfl rfl ?_
    refine RL.y rfl (y_loadv sc23 (eqw (hV2.ext hE3)) rfl rfl) ?_
    refine RL.take (t := 10) rfl rfl rfl ?_
    refine RL.call rfl (likeBools_any (hd.ext hE13) (he.ext hE13)) ?_
    rintro r w4 ⟨rfl, hE4⟩
    refine RL.y rfl (y_pickT (v := .bool _) rfl rfl) ?_
    refine RL.y rfl (y_asg (v := .bool _) rfl) ?_
    refine RL.nil ?_
    refine Fin.next ?_
    refine CW.ret ?_
    refine Fin.ret1 rfl (by conv => lhs; whnf) ?_
    exact ⟨_, rfl, congrArg Value.bool (by simp [h1]), hE13.trans hE4⟩
  · with_reducible first | (replace h1 := deNF h1) | (replace h1 := of_decide_eq_true h1) | (replace h1 := of_decide_eq_false h1) | (replace h1 := deNT h1) | (replace h1 := deNN h1) | (replace h1 := bnT h1) | (replace h1 := bnF h1) | skip
    refine RL.pass (t := 10) rfl rfl rfl rfl ?_
    refine RL.pass (t := 10) rfl rfl rfl rfl ?_
    refine RL.pass (t := 10) rfl rfl rfl rfl ?_
    refine RL.pass (t := 10) rfl rfl rfl rfl ?_
    refine RL.pass (t := 10) rfl rfl rfl rfl ?_
    refine RL.y rfl (y_pickF (v := .bool _) rfl rfl) ?_
    refine RL.y rfl (y_asg (v := .bool _) rfl) ?_
    refine RL.nil ?_
    refine Fin.next ?_
    refine CW.ret ?_
    refine Fin.ret1 rfl (by conv => lhs; whnf) ?_
    exact ⟨_, rfl, bF (fun h => h1 h.1), hE13⟩

theorem likePlans_any {w : World} {b c : Value} {ps qs : List Int} {ds es : List Bool} {rs ss : List (List Int)} (hb : RdP w b ps ds rs) (hc : RdP w c qs es ss) :
    Does Try.prog 51 #[b, c] w (fun r w' => r = .bool (decide ((ps = qs ∧ ds = es) ∧ rs = ss)) ∧ Ext w w') := by
  obtain ⟨vp, vd, vr, rfl, hb1, hr1⟩ := hb
  obtain ⟨up, ud, ur, rfl, hb2, hr2⟩ := hc
  refine enter Try.func51 rfl 17 Try.ntmps51 rfl (by kernel_rfl) ?_
  refine CW.seq ?_
  refine CW.region ?_
  refine RL.box (cs := [vp, vd, vr]) rfl rfl rfl (fun w1 hV1 hE1 => ?_)
  refine RL.box (cs := [up, ud, ur]) rfl rfl rfl (fun w2 hV2 hE2 => ?_)
  have hE12 := hE1.trans hE2
  refine RL.y rfl (y_asg rfl) ?_
  refine RL.nil ?_
  refine Fin.next ?_
  refine CW.seq ?_
  refine CW.region ?_
  refine RL.y rfl (y_fa fa33_0 rfl rfl) ?_
  refine RL.y rfl (y_loadp (ds := [vp, vd]) ag31 (eqw (hV1.ext hE2)) rfl rfl rfl) ?_
  refine RL.y rfl (y_fa fa33_0 rfl rfl) ?_
  refine RL.y rfl (y_loadp (ds := [up, ud]) ag31 (eqw (hV2)) rfl rfl rfl) ?_
  refine RL.call rfl (likeBuildings_any (hb1.ext hE12) (hb2.ext hE12)) ?_
  rintro r w3 ⟨rfl, hE3⟩
  have hE13 := hE12.trans hE3
  refine RL.y rfl (y_mov (v := .bool _) rfl) ?_
  refine RL.split (t := 10) rfl rfl (fun h1 => ?_) (fun h1 => ?_)
  · with_reducible first | (replace h1 := deNF h1) | (replace h1 := of_decide_eq_true h1) | (replace h1 := of_decide_eq_false h1) | (replace h1 := deNT h1) | (replace h1 := deNN h1) | (replace h1 := bnT h1) | (replace h1 := bnF h1) | skip
    refine RL.take (t := 10) rfl rfl rfl ?_
    refine RL.y rfl (y_fa fa33_1 rfl rfl) ?_
    refine RL.take (t := 10) rfl rfl rfl ?_
    refine RL.y rfl (y_loadv sc26 (eqw ((hV1.ext hE2).ext hE3)) rfl rfl) ?_
    refine RL.take (t := 10) rfl rfl rfl ?_
    refine RL.y rfl (y_fa fa33_1 rfl rfl) ?_
    refine RL.take (t := 10) rfl rfl rfl ?_
    refine RL.y rfl (y_loadv sc26 (eqw (hV2.ext hE3)) rfl rfl) ?_
    refine RL.take (t := 10) rfl rfl rfl ?_
    refine RL.call rfl (likeLists_any (hr1.ext hE13) (hr2.ext hE13)) ?_
    rintro r w4 ⟨rfl, hE4⟩
    refine RL.y rfl (y_pickT (v := .bool _) rfl rfl) ?_
    refine RL.y rfl (y_asg (v := .bool _) rfl) ?_
    refine RL.nil ?_
    refine Fin.next ?_
    refine CW.ret ?_
    refine Fin.ret1 rfl (by conv => lhs; whnf) ?_
    exact ⟨_, rfl, congrArg Value.bool (by simp [h1]), hE13.trans hE4⟩
  · with_reducible first | (replace h1 := deNF h1) | (replace h1 := of_decide_eq_true h1) | (replace h1 := of_decide_eq_false h1) | (replace h1 := deNT h1) | (replace h1 := deNN h1) | (replace h1 := bnT h1) | (replace h1 := bnF h1) | skip
    refine RL.pass (t := 10) rfl rfl rfl rfl ?_
    refine RL.pass (t := 10) rfl rfl rfl rfl ?_
    refine RL.pass (t := 10) rfl rfl rfl rfl ?_
    refine RL.pass (t := 10) rfl rfl rfl rfl ?_
    refine RL.pass (t := 10) rfl rfl rfl rfl ?_
    refine RL.y rfl (y_pickF (v := .bool _) rfl rfl) ?_
    refine RL.y rfl (y_asg (v := .bool _) rfl) ?_
    refine RL.nil ?_
    refine Fin.next ?_
    refine CW.ret ?_
    refine Fin.ret1 rfl (by conv => lhs; whnf) ?_
    exact ⟨_, rfl, bF (fun h => h1 h.1), hE13⟩
end Go.Proofs.Ytkkeipogkjlneaa
