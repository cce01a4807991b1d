/-
  MayOpen, SurelyOpens, WearLimit, FreePlaces.
-/
import Derived.Test.YtaepdknmagaokaaFWea3
namespace Go.Proofs.Ytaepdknmagaokaa
open B Go.RowKit

theorem RdLs.one {w : World} {v vl : Value} {ss : List (List Int)} (h : SV w v [vl]) (hl : RdSS w vl ss) : RdLs w v [ss] := ⟨[vl], h, rfl, fun i hi => by
  obtain rfl : i = 0 := by simpa using hi
  exact hl⟩
theorem rdS_one {w : World} {v c : Value} {xs : List Int} (h : SV w v [c]) (hc : SI w c xs) : RdSS w v [xs] := ⟨[c], h, rfl, fun i hi => by
  obtain rfl : i = 0 := by simpa using hi
  exact hc⟩
theorem rdS_nil {w : World} : RdSS w (.slice none 0 0) [] := ⟨[], SV.nil _, rfl, fun i hi => absurd hi (Nat.not_lt_zero i)⟩
theorem lck_ok {q : Mk} {ss : List (List Int)} (h : lck q ss) : (2 ≤ q.ch ∧ q.ch ≤ 6) ∧ (2 ≤ q.dp ∧ q.dp ≤ 8) ∧ (ss.length : Int) = q.ch ∧ (∀ r ∈ ss, sm8 r) ∧ (∀ r ∈ ss, rises r q.dp) := by
  obtain ⟨⟨h1, h2, _⟩, h3, h4⟩ := h
  exact ⟨h1, h2, h3, fun r hr x hx => by have := rises_lt (h4 r hr).2 x hx; omega, fun r hr => (h4 r hr).2⟩
theorem moC_ok {q : Mk} {ss : List (List Int)} {cs : List Int} {a t : Int} (h : moC q ss cs a t = 0) : cs.length = ss.length ∧ (∀ r ∈ ss, sm8 r) ∧ sm8 cs ∧ (0 ≤ a ∧ a ≤ 19) ∧ (0 ≤ t ∧ t ≤ 4) := by
  obtain ⟨h1, h2, h3⟩ := moC_zero.1 h
  obtain ⟨_, h5, h6, h7, _⟩ := lck_ok h1
  exact ⟨by have := h3.1; omega, h7, fun x hx => by have := h3.2.1 x hx; omega, h2.1, h2.2⟩

theorem specMayOpen_any {w : World} {q : Mk} {v u : Value} {ss : List (List Int)} {cs : List Int} {a t : Int} (hv : RdL w v ss) (hu : SI w u cs) :
    Does Try.prog 35 #[mkA q, v, u, .int .i64 a, .int .i64 t] w (fun r w' => r = .tuple #[.bool (decide (moV q ss cs a t)), .int .i64 (moC q ss cs a t)] ∧ Ext w w') := by
  obtain ⟨vl, rfl, hl⟩ := hv
  refine enter Try.func35 rfl 33 Try.ntmps35 rfl (by kernel_rfl) ?_
  refine CW.seq ?_
  refine CW.region ?_
  refine RL.box (cs := [.int .i64 q.ch, .int .i64 q.dp, .int .i64 q.st, .int .i64 q.sm, .int .i64 q.le]) rfl rfl rfl (fun w1 hV hE1 => ?_)
  refine RL.box (cs := [vl]) rfl rfl rfl (fun w2 hW hE2 => ?_)
  have hE12 := hE1.trans hE2
  refine RL.y rfl (y_asg rfl) ?_
  refine RL.y rfl (y_asg rfl) ?_
  refine RL.nil ?_
  refine Fin.next ?_
  refine CW.seq ?_
  refine CW.region ?_
  refine RL.y rfl (y_loads ag25 rfl (eqw (hV.ext hE2)) rfl) ?_
  refine RL.y rfl (y_loads ag28 rfl (eqw (hW)) rfl) ?_
  refine RL.y rfl (y_mov (by conv => lhs; whnf)) ?_
  refine RL.y rfl (y_mov (v := .int _ _) rfl) ?_
  refine RL.y rfl (y_mov (v := .int _ _) rfl) ?_
  refine RL.call rfl (l08Code_any ⟨vl, rfl, hl.ext hE12⟩ (hu.ext hE12)) ?_
  rintro r w3 ⟨rfl, hE3⟩
  have hE13 := hE12.trans hE3
  refine RL.y rfl (y_asg (v := .int _ _) rfl) ?_
  refine RL.nil ?_
  refine Fin.next ?_
  refine CW.seq ?_
  refine CW.seq ?_
  refine CW.region ?_
  refine RL.y rfl (y_mov (v := .int _ _) rfl) ?_
  refine RL.y rfl (y_ne rfl rfl) ?_
  refine RL.nil ?_
  refine Fin.next ?_
  refine CW.cond rfl rfl (fun h1 => ?_) (fun h1 => ?_)
  · with_reducible first | (replace h1 := deNF h1) | (replace h1 := of_decide_eq_true h1) | (replace h1 := of_decide_eq_false h1) | (replace h1 := deNT h1) | (replace h1 := deNN h1) | (replace h1 := bnT h1) | (replace h1 := bnF h1) | skip
    refine CW.seq ?_
    refine CW.region ?_
    refine RL.y rfl (y_mov (v := .int _ _) rfl) ?_
    refine RL.y rfl (y_asg rfl) ?_
    refine RL.y rfl (y_asg (v := .int _ _) rfl) ?_
    refine RL.nil ?_
    refine Fin.next ?_
    refine CW.ret ?_
    refine Fin.thenRet ?_
    refine Fin.ret2 rfl (by conv => lhs; whnf) (by conv => lhs; whnf) ?_
    exact ⟨_, rfl, by rw [decide_eq_false (fun h => h1 h.1)], hE13⟩
  · with_reducible first | (replace h1 := deNF h1) | (replace h1 := of_decide_eq_true h1) | (replace h1 := of_decide_eq_false h1) | (replace h1 := deNT h1) | (replace h1 := deNN h1) | (replace h1 := bnT h1) | (replace h1 := bnF h1) | skip
    obtain ⟨g1, g2, g3, g4, g5⟩ := moC_ok h1
    refine CW.skip ?_
    refine Fin.next ?_
    refine CW.seq ?_
    refine CW.region ?_
    refine RL.y rfl (y_loads ag28 rfl (eqw (hW.ext hE3)) rfl) ?_
    refine RL.y rfl (y_mov (by conv => lhs; whnf)) ?_
    refine RL.y rfl (y_mov (v := .int _ _) rfl) ?_
    refine RL.y rfl (y_mov (v := .int _ _) rfl) ?_
    refine RL.call rfl (l08Key_any ⟨vl, rfl, hl.ext hE13⟩ (hu.ext hE13) (by omega) g2 g3 g4) ?_
    rintro r w4 ⟨rfl, hE4⟩
    refine RL.y rfl (y_mov (by conv => lhs; whnf)) ?_
    refine RL.y rfl (y_ext0 rfl) ?_
    refine RL.y rfl (y_ext1 rfl) ?_
    refine RL.y rfl (y_asg (v := .bool _) rfl) ?_
    refine RL.y rfl (y_asg (v := .bool _) rfl) ?_
    refine RL.nil ?_
    refine Fin.next ?_
    refine CW.seq ?_
    refine CW.region ?_
    refine RL.y rfl (y_mov (v := .bool _) rfl) ?_
    refine RL.y rfl (y_asg (v := .bool _) rfl) ?_
    refine RL.y rfl (y_asg rfl) ?_
    refine RL.nil ?_
    refine Fin.next ?_
    refine CW.ret ?_
    refine Fin.ret2 rfl (by conv => lhs; whnf) (by conv => lhs; whnf) ?_
    exact ⟨_, rfl, by rw [h1, show decide (moV q ss cs a t) = decide (mayTo ss cs (a + 1).toNat t cs.length) from decide_eq_decide.2 ⟨fun h => h.2, fun h => ⟨h1, h⟩⟩], hE13.trans hE4⟩

theorem specSurelyOpens_any {w : World} {q : Mk} {v u : Value} {ss : List (List Int)} {cs : List Int} {a t : Int} (hv : RdL w v ss) (hu : SI w u cs) :
    Does Try.prog 38 #[mkA q, v, u, .int .i64 a, .int .i64 t] w (fun r w' => r = .tuple #[.bool (decide (soV q ss cs a t)), .int .i64 (moC q ss cs a t)] ∧ Ext w w') := by
  obtain ⟨vl, rfl, hl⟩ := hv
  refine enter Try.func38 rfl 33 Try.ntmps38 rfl (by kernel_rfl) ?_
  refine CW.seq ?_
  refine CW.region ?_
  refine RL.box (cs := [.int .i64 q.ch, .int .i64 q.dp, .int .i64 q.st, .int .i64 q.sm, .int .i64 q.le]) rfl rfl rfl (fun w1 hV hE1 => ?_)
  refine RL.box (cs := [vl]) rfl rfl rfl (fun w2 hW hE2 => ?_)
  have hE12 := hE1.trans hE2
  refine RL.y rfl (y_asg rfl) ?_
  refine RL.y rfl (y_asg rfl) ?_
  refine RL.nil ?_
  refine Fin.next ?_
  refine CW.seq ?_
  refine CW.region ?_
  refine RL.y rfl (y_loads ag25 rfl (eqw (hV.ext hE2)) rfl) ?_
  refine RL.y rfl (y_loads ag28 rfl (eqw (hW)) rfl) ?_
  refine RL.y rfl (y_mov (by conv => lhs; whnf)) ?_
  refine RL.y rfl (y_mov (v := .int _ _) rfl) ?_
  refine RL.y rfl (y_mov (v := .int _ _) rfl) ?_
  refine RL.call rfl (l08Code_any ⟨vl, rfl, hl.ext hE12⟩ (hu.ext hE12)) ?_
  rintro r w3 ⟨rfl, hE3⟩
  have hE13 := hE12.trans hE3
  refine RL.y rfl (y_asg (v := .int _ _) rfl) ?_
  refine RL.nil ?_
  refine Fin.next ?_
  refine CW.seq ?_
  refine CW.seq ?_
  refine CW.region ?_
  refine RL.y rfl (y_mov (v := .int _ _) rfl) ?_
  refine RL.y rfl (y_ne rfl rfl) ?_
  refine RL.nil ?_
  refine Fin.next ?_
  refine CW.cond rfl rfl (fun h1 => ?_) (fun h1 => ?_)
  · with_reducible first | (replace h1 := deNF h1) | (replace h1 := of_decide_eq_true h1) | (replace h1 := of_decide_eq_false h1) | (replace h1 := deNT h1) | (replace h1 := deNN h1) | (replace h1 := bnT h1) | (replace h1 := bnF h1) | skip
    refine CW.seq ?_
    refine CW.region ?_
    refine RL.y rfl (y_mov (v := .int _ _) rfl) ?_
    refine RL.y rfl (y_asg rfl) ?_
    refine RL.y rfl (y_asg (v := .int _ _) rfl) ?_
    refine RL.nil ?_
    refine Fin.next ?_
    refine CW.ret ?_
    refine Fin.thenRet ?_
    refine Fin.ret2 rfl (by conv => lhs; whnf) (by conv => lhs; whnf) ?_
    exact ⟨_, rfl, by rw [decide_eq_false (fun h => h1 h.1)], hE13⟩
  · with_reducible first | (replace h1 := deNF h1) | (replace h1 := of_decide_eq_true h1) | (replace h1 := of_decide_eq_false h1) | (replace h1 := deNT h1) | (replace h1 := deNN h1) | (replace h1 := bnT h1) | (replace h1 := bnF h1) | skip
    obtain ⟨g1, g2, g3, g4, g5⟩ := moC_ok h1
    refine CW.skip ?_
    refine Fin.next ?_
    refine CW.seq ?_
    refine CW.region ?_
    refine RL.y rfl (y_loads ag28 rfl (eqw (hW.ext hE3)) rfl) ?_
    refine RL.y rfl (y_mov (by conv => lhs; whnf)) ?_
    refine RL.y rfl (y_mov (v := .int _ _) rfl) ?_
    refine RL.y rfl (y_mov (v := .int _ _) rfl) ?_
    refine RL.call rfl (l08Key_any ⟨vl, rfl, hl.ext hE13⟩ (hu.ext hE13) (by omega) g2 g3 g4) ?_
    rintro r w4 ⟨rfl, hE4⟩
    refine RL.y rfl (y_mov (by conv => lhs; whnf)) ?_
    refine RL.y rfl (y_ext0 rfl) ?_
    refine RL.y rfl (y_ext1 rfl) ?_
    refine RL.y rfl (y_asg (v := .bool _) rfl) ?_
    refine RL.y rfl (y_asg (v := .bool _) rfl) ?_
    refine RL.nil ?_
    refine Fin.next ?_
    refine CW.seq ?_
    refine CW.region ?_
    refine RL.y rfl (y_mov (v := .bool _) rfl) ?_
    refine RL.y rfl (y_asg (v := .bool _) rfl) ?_
    refine RL.y rfl (y_asg rfl) ?_
    refine RL.nil ?_
    refine Fin.next ?_
    refine CW.ret ?_
    refine Fin.ret2 rfl (by conv => lhs; whnf) (by conv => lhs; whnf) ?_
    exact ⟨_, rfl, by rw [h1, show decide (soV q ss cs a t) = decide (surTo ss cs (a + 1).toNat t cs.length) from decide_eq_decide.2 ⟨fun h => h.2, fun h => ⟨h1, h⟩⟩], hE13.trans hE4⟩

theorem implMayOpen_any {w : World} {q : Mk} {v u : Value} {ss : List (List Int)} {cs : List Int} {a t : Int} (hv : RdL w v ss) (hu : SI w u cs) :
    Does Try.prog 37 #[mkA q, v, u, .int .i64 a, .int .i64 t] w (fun r w' => r = .tuple #[.bool (decide (moV q ss cs a t)), .int .i64 (moC q ss cs a t)] ∧ Ext w w') := by
  obtain ⟨vl, rfl, vs, hr⟩ := hv
  have hul := SI.le hu
  refine enter Try.func37 rfl 44 Try.ntmps37 rfl (by kernel_rfl) ?_
  refine CW.seq ?_
  refine CW.region ?_
  refine RL.box (cs := [.int .i64 q.ch, .int .i64 q.dp, .int .i64 q.st, .int .i64 q.sm, .int .i64 q.le]) rfl rfl rfl (fun w1 hV hE1 => ?_)
  refine RL.box (cs := [vl]) rfl rfl rfl (fun w2 hW hE2 => ?_)
  have hE12 := hE1.trans hE2
  refine RL.y rfl (y_asg rfl) ?_
  refine RL.y rfl (y_asg rfl) ?_
  refine RL.nil ?_
  refine Fin.next ?_
  refine CW.seq ?_
  refine CW.seq ?_
  refine CW.region ?_
  refine RL.y rfl (y_loads ag25 rfl (eqw (hV.ext hE2)) rfl) ?_
  refine RL.y rfl (y_loads ag28 rfl (eqw (hW)) rfl) ?_
  refine RL.litL rfl lT66 (slice_one hr.1) rfl (fun ul w3 hL hE3 => ?_)
  refine RL.y rfl (y_mov (by conv => lhs; whnf)) ?_
  refine RL.lit1 rfl sT26 (slice_one hu) rfl (fun uk w4 hok hE4 hbk => ?_)
  have hE34 := hE3.trans hE4
  have hE14 := hE12.trans hE34
  refine RL.y rfl (y_mov (v := .int _ _) rfl) ?_
  refine RL.y rfl (y_mov (v := .int _ _) rfl) ?_
  refine RL.call rfl (wearCode_any (RdLs.one (hL.ext hE4) ⟨vs, hr.ext hE14⟩) (rdS_one hok.sv (hu.ext hE14))) ?_
  rintro r w5 ⟨rfl, hE5⟩
  rw [wcC_key]
  have hE15 := hE14.trans hE5
  refine RL.y rfl (y_asg (v := .int _ _) rfl) ?_
  refine RL.nil ?_
  refine Fin.next ?_
  refine CW.seq ?_
  refine CW.region ?_
  refine RL.y rfl (y_mov (v := .int _ _) rfl) ?_
  refine RL.y rfl (y_ne rfl rfl) ?_
  refine RL.nil ?_
  refine Fin.next ?_
  refine CW.cond rfl rfl (fun h1 => ?_) (fun h1 => ?_)
  · with_reducible first | (replace h1 := deNF h1) | (replace h1 := of_decide_eq_true h1) | (replace h1 := of_decide_eq_false h1) | (replace h1 := deNT h1) | (replace h1 := deNN h1) | (replace h1 := bnT h1) | (replace h1 := bnF h1) | skip
    refine CW.seq ?_
    refine CW.region ?_
    refine RL.y rfl (y_mov (v := .int _ _) rfl) ?_
    refine RL.y rfl (y_asg rfl) ?_
    refine RL.y rfl (y_asg (v := .int _ _) rfl) ?_
    refine RL.nil ?_
    refine Fin.next ?_
    refine CW.ret ?_
    refine Fin.thenRet ?_
    refine Fin.ret2 rfl (by conv => lhs; whnf) (by conv => lhs; whnf) ?_
    exact ⟨_, rfl, by rw [decide_eq_false (fun h => h1 h.1)], hE15⟩
  · with_reducible first | (replace h1 := deNF h1) | (replace h1 := of_decide_eq_true h1) | (replace h1 := of_decide_eq_false h1) | (replace h1 := deNT h1) | (replace h1 := deNN h1) | (replace h1 := bnT h1) | (replace h1 := bnF h1) | skip
    obtain ⟨g1, g2, g3, g4, g5⟩ := moC_ok h1
    have hW5 := (hW.ext hE34).ext hE5
    refine CW.skip ?_
    refine Fin.next ?_
    refine CW.seq ?_
    refine CW.seq ?_
    refine CW.region ?_
    refine RL.y rfl (y_mov (by conv => lhs; whnf)) ?_
    refine RL.y rfl (y_len sT29 hu (ints_len _) rfl) ?_
    refine RL.y rfl (y_mov rfl) ?_
    refine RL.nil ?_
    refine Fin.next ?_
    refine CW.block ?_
    refine CW.loop (fun m E w' => ∃ k : Nat, m = cs.length - k ∧ k ≤ cs.length ∧ agrees E [(6, .pointer (some ⟨w1.heap.size, 0, none⟩)), (3, .int .i64 a), (4, .int .i64 t), (26, u), (27, .int .i64 cs.length), (28, .int .i64 (k : Int))] ∧ mayTo ss cs (a + 1).toNat t k ∧ Ext w5 w') _ ⟨0, rfl, Nat.zero_le _, ⟨rfl, rfl, rfl, rfl, rfl, rfl, trivial⟩, (fun i hi => absurd hi (Nat.not_lt_zero i)), Ext.refl _⟩ ?_
    · rintro m E w6 ⟨k, rfl, hkk, hagk, hmy, hE6⟩
      refine CW.re _ hagk rfl ?_
      clear hagk
      refine CW.seq ?_
      refine CW.region ?_
      refine RL.y rfl (y_lt rfl rfl) ?_
      refine RL.nil ?_
      refine Fin.next ?_
      refine CW.seq ?_
      refine CW.cond rfl rfl (fun hck => ?_) (fun hck => ?_)
      · with_reducible first | (replace hck := deNF hck) | (replace hck := of_decide_eq_true hck) | (replace hck := of_decide_eq_false hck) | (replace hck := deNT hck) | (replace hck := deNN hck) | (replace hck := bnT hck) | (replace hck := bnF hck) | skip
        have hltk : k < cs.length := by omega
        have hE06 := hE15.trans hE6
        have hks : k < ss.length := by omega
        have hrs := g2 _ (List.getElem_mem hks)
        have hck := g3 _ (List.getElem_mem hltk)
        have e1 : ss.getD k [] = ss[k] := getD_lt hks
        have e2 : cs.getD k 0 = cs[k] := getD_lt hltk
        refine CW.skip ?_
        refine Fin.next ?_
        refine CW.seq ?_
        refine CW.block ?_
        refine CW.seq ?_
        refine CW.region ?_
        refine RL.y rfl (y_mov (v := .int _ _) rfl) ?_
        refine RL.y rfl (y_ixa sT29 (eqw (hu.ext hE06)) (k := k) (ints_lt hltk) rfl rfl) ?_
        refine RL.y rfl (y_load sc2 (eqw (hu.ext hE06)) (ints_at hltk) rfl) ?_
        refine RL.y rfl (y_asg (v := .int _ _) rfl) ?_
        refine RL.y rfl (y_asg (v := .int _ _) rfl) ?_
        refine RL.nil ?_
        refine Fin.next ?_
        refine CW.seq ?_
        refine CW.region ?_
        refine RL.y rfl (y_fa fa28_0 rfl rfl) ?_
        refine RL.y rfl (y_loadv sc26 (eqw (hW5.ext hE6)) rfl rfl) ?_
        refine RL.y rfl (y_mov (v := .int _ _) rfl) ?_
        refine RL.y rfl (y_ixa sT26 (eqw (hr.1.ext hE06)) (k := k) (hr.lt hks) rfl rfl) ?_
        refine RL.y rfl (y_load sc29 (eqw (hr.1.ext hE06)) (hr.at hks) rfl) ?_
        refine RL.y rfl (y_mov (v := .int _ _) rfl) ?_
        refine RL.y rfl (y_mov (v := .int _ _) rfl) ?_
        refine RL.y rfl (y_mov (v := .int _ _) rfl) ?_
        refine RL.call rfl (freePlaces_any ((hr.row hks).ext hE06) hrs hck g4) ?_
        rintro r w7 ⟨rfl, hE7⟩
        refine RL.y rfl (y_eq rfl rfl) ?_
        refine RL.nil ?_
        refine Fin.next ?_
        refine CW.cond rfl rfl (fun h2 => ?_) (fun h2 => ?_)
        · with_reducible first | (replace h2 := deNF h2) | (replace h2 := of_decide_eq_true h2) | (replace h2 := of_decide_eq_false h2) | (replace h2 := deNT h2) | (replace h2 := deNN h2) | (replace h2 := bnT h2) | (replace h2 := bnF h2) | skip
          refine CW.seq ?_
          refine CW.region ?_
          refine RL.y rfl (y_asg rfl) ?_
          refine RL.y rfl (y_asg rfl) ?_
          refine RL.nil ?_
          refine Fin.next ?_
          refine CW.ret ?_
          refine Fin.blockRet ?_
          refine Fin.thenRet ?_
          refine Fin.thenRet ?_
          refine Fin.blockRet ?_
          refine Fin.thenRet ?_
          refine Fin.ret2 rfl (by conv => lhs; whnf) (by conv => lhs; whnf) ?_
          exact ⟨_, rfl, by rw [h1, decide_eq_false (fun h => by have := h.2 k hltk; rw [e1, e2] at this; omega)], hE06.trans hE7⟩
        · with_reducible first | (replace h2 := deNF h2) | (replace h2 := of_decide_eq_true h2) | (replace h2 := of_decide_eq_false h2) | (replace h2 := deNT h2) | (replace h2 := deNN h2) | (replace h2 := bnT h2) | (replace h2 := bnF h2) | skip
          refine CW.skip ?_
          refine Fin.blockNormal ?_
          refine Fin.next ?_
          refine CW.region ?_
          refine RL.y rfl (y_add rfl rfl (IntWalk.i64_in _ (by omega))) ?_
          refine RL.y rfl (y_mov (v := .int _ _) rfl) ?_
          refine RL.nil ?_
          refine Fin.le ?_
          exact ⟨cs.length - (k + 1), by omega, k + 1, rfl, hltk, ⟨rfl, rfl, rfl, rfl, rfl, rfl, trivial⟩, may_succ.2 ⟨hmy, by rw [e1, e2]; omega⟩, hE6.trans hE7⟩
      · with_reducible first | (replace hck := deNF hck) | (replace hck := of_decide_eq_true hck) | (replace hck := of_decide_eq_false hck) | (replace hck := deNT hck) | (replace hck := deNN hck) | (replace hck := bnT hck) | (replace hck := bnF hck) | skip
        obtain rfl : cs.length = k := by omega
        refine CW.exit ?_
        refine Fin.thenExit ?_
        refine Fin.thenExit ?_
        refine Fin.blockHit ?_
        refine Fin.next ?_
        refine CW.seq ?_
        refine CW.region ?_
        refine RL.y rfl (y_asg rfl) ?_
        refine RL.y rfl (y_asg rfl) ?_
        refine RL.nil ?_
        refine Fin.next ?_
        refine CW.ret ?_
        refine Fin.ret2 rfl (by conv => lhs; whnf) (by conv => lhs; whnf) ?_
        exact ⟨_, rfl, by rw [h1, decide_eq_true ⟨h1, hmy⟩], hE15.trans hE6⟩

theorem implSurelyOpens_any {w : World} {q : Mk} {v u : Value} {ss : List (List Int)} {cs : List Int} {a t : Int} (hv : RdL w v ss) (hu : SI w u cs) :
    Does Try.prog 21 #[mkA q, v, u, .int .i64 a, .int .i64 t] w (fun r w' => r = .tuple #[.bool (decide (soV q ss cs a t)), .int .i64 (moC q ss cs a t)] ∧ Ext w w') := by
  obtain ⟨vl, rfl, vs, hr⟩ := hv
  refine enter Try.func21 rfl 29 Try.ntmps21 rfl (by kernel_rfl) ?_
  refine CW.seq ?_
  refine CW.region ?_
  refine RL.box (cs := [.int .i64 q.ch, .int .i64 q.dp, .int .i64 q.st, .int .i64 q.sm, .int .i64 q.le]) rfl rfl rfl (fun w1 hV hE1 => ?_)
  refine RL.box (cs := [vl]) rfl rfl rfl (fun w2 hW hE2 => ?_)
  have hE12 := hE1.trans hE2
  refine RL.y rfl (y_asg rfl) ?_
  refine RL.y rfl (y_asg rfl) ?_
  refine RL.nil ?_
  refine Fin.next ?_
  refine CW.seq ?_
  refine CW.seq ?_
  refine CW.region ?_
  refine RL.y rfl (y_loads ag25 rfl (eqw (hV.ext hE2)) rfl) ?_
  refine RL.y rfl (y_loads ag28 rfl (eqw (hW)) rfl) ?_
  refine RL.litL rfl lT66 (slice_one hr.1) rfl (fun ul w3 hL hE3 => ?_)
  refine RL.y rfl (y_mov (by conv => lhs; whnf)) ?_
  refine RL.lit1 rfl sT26 (slice_one hu) rfl (fun uk w4 hok hE4 hbk => ?_)
  have hE34 := hE3.trans hE4
  have hE14 := hE12.trans hE34
  refine RL.y rfl (y_mov (v := .int _ _) rfl) ?_
  refine RL.y rfl (y_mov (v := .int _ _) rfl) ?_
  refine RL.call rfl (wearCode_any (RdLs.one (hL.ext hE4) ⟨vs, hr.ext hE14⟩) (rdS_one hok.sv (hu.ext hE14))) ?_
  rintro r w5 ⟨rfl, hE5⟩
  rw [wcC_key]
  have hE15 := hE14.trans hE5
  refine RL.y rfl (y_asg (v := .int _ _) rfl) ?_
  refine RL.nil ?_
  refine Fin.next ?_
  refine CW.seq ?_
  refine CW.region ?_
  refine RL.y rfl (y_mov (v := .int _ _) rfl) ?_
  refine RL.y rfl (y_ne rfl rfl) ?_
  refine RL.nil ?_
  refine Fin.next ?_
  refine CW.cond rfl rfl (fun h1 => ?_) (fun h1 => ?_)
  · with_reducible first | (replace h1 := deNF h1) | (replace h1 := of_decide_eq_true h1) | (replace h1 := of_decide_eq_false h1) | (replace h1 := deNT h1) | (replace h1 := deNN h1) | (replace h1 := bnT h1) | (replace h1 := bnF h1) | skip
    refine CW.seq ?_
    refine CW.region ?_
    refine RL.y rfl (y_mov (v := .int _ _) rfl) ?_
    refine RL.y rfl (y_asg rfl) ?_
    refine RL.y rfl (y_asg (v := .int _ _) rfl) ?_
    refine RL.nil ?_
    refine Fin.next ?_
    refine CW.ret ?_
    refine Fin.thenRet ?_
    refine Fin.ret2 rfl (by conv => lhs; whnf) (by conv => lhs; whnf) ?_
    exact ⟨_, rfl, by rw [decide_eq_false (fun h => h1 h.1)], hE15⟩
  · with_reducible first | (replace h1 := deNF h1) | (replace h1 := of_decide_eq_true h1) | (replace h1 := of_decide_eq_false h1) | (replace h1 := deNT h1) | (replace h1 := deNN h1) | (replace h1 := bnT h1) | (replace h1 := bnF h1) | skip
    obtain ⟨g1, g2, g3, g4, g5⟩ := moC_ok h1
    have hW5 := (hW.ext hE34).ext hE5
    refine CW.skip ?_
    refine Fin.next ?_
    refine CW.seq ?_
    refine CW.region ?_
    refine RL.y rfl (y_loads ag28 rfl (eqw (hW5)) rfl) ?_
    refine RL.y rfl (y_mov (by conv => lhs; whnf)) ?_
    refine RL.y rfl (y_mov (v := .int _ _) rfl) ?_
    refine RL.y rfl (y_mov (v := .int _ _) rfl) ?_
    refine RL.call rfl (surelyOpens_any ⟨vl, rfl, vs, hr.ext hE15⟩ (hu.ext hE15) (by omega) g2 g3 g4) ?_
    rintro r w6 ⟨rfl, hE6⟩
    refine RL.y rfl (y_asg (v := .bool _) rfl) ?_
    refine RL.y rfl (y_asg rfl) ?_
    refine RL.nil ?_
    refine Fin.next ?_
    refine CW.ret ?_
    refine Fin.ret2 rfl (by conv => lhs; whnf) (by conv => lhs; whnf) ?_
    exact ⟨_, rfl, by rw [h1, show decide (soV q ss cs a t) = decide (surTo ss cs (a + 1).toNat t cs.length) from decide_eq_decide.2 ⟨fun h => h.2, fun h => ⟨h1, h⟩⟩], hE15.trans hE6⟩

theorem wl_bad {q : Mk} {ss : List (List Int)} {cs : List Int} {t : Int} (h : moC q ss cs 0 t ≠ 0) : wlC q ss cs t = moC q ss cs 0 t ∧ wlV q ss cs t = 0 := by
  have h1 : wlC q ss cs t = moC q ss cs 0 t := by unfold wlC; rw [if_neg h]
  exact ⟨h1, by unfold wlV; rw [h1, if_neg h]⟩
theorem wl_none {q : Mk} {ss : List (List Int)} {cs : List Int} {t : Int} (h : moC q ss cs 0 t = 0) (h2 : wlN ss cs t 20 = 0) : wlC q ss cs t = 4 ∧ wlV q ss cs t = 0 := by
  have h1 : wlC q ss cs t = 4 := by unfold wlC; rw [if_pos h, if_pos h2]
  exact ⟨h1, by unfold wlV; rw [h1, if_neg (by omega)]⟩
theorem wl_some {q : Mk} {ss : List (List Int)} {cs : List Int} {t : Int} (h : moC q ss cs 0 t = 0) (h2 : wlN ss cs t 20 ≠ 0) : wlC q ss cs t = 0 ∧ wlV q ss cs t = (wlN ss cs t 20 : Int) - 1 := by
  have h1 : wlC q ss cs t = 0 := by unfold wlC; rw [if_pos h, if_neg h2]
  exact ⟨h1, by unfold wlV; rw [if_pos h1]⟩

theorem specWearLimit_any {w : World} {q : Mk} {v u : Value} {ss : List (List Int)} {cs : List Int} {t : Int} (hv : RdL w v ss) (hu : SI w u cs) :
    Does Try.prog 16 #[mkA q, v, u, .int .i64 t] w (fun r w' => r = .tuple #[.int .i64 (wlV q ss cs t), .int .i64 (wlC q ss cs t)] ∧ Ext w w') := by
  obtain ⟨vl, rfl, hl⟩ := hv
  refine enter Try.func16 rfl 40 Try.ntmps16 rfl (by kernel_rfl) ?_
  refine CW.seq ?_
  refine CW.region ?_
  refine RL.box (cs := [.int .i64 q.ch, .int .i64 q.dp, .int .i64 q.st, .int .i64 q.sm, .int .i64 q.le]) rfl rfl rfl (fun w1 hV hE1 => ?_)
  refine RL.box (cs := [vl]) rfl rfl rfl (fun w2 hW hE2 => ?_)
  have hE12 := hE1.trans hE2
  refine RL.y rfl (y_asg rfl) ?_
  refine RL.y rfl (y_asg rfl) ?_
  refine RL.nil ?_
  refine Fin.next ?_
  refine CW.seq ?_
  refine CW.region ?_
  refine RL.y rfl (y_loads ag25 rfl (eqw (hV.ext hE2)) rfl) ?_
  refine RL.y rfl (y_loads ag28 rfl (eqw (hW)) rfl) ?_
  refine RL.y rfl (y_mov (by conv => lhs; whnf)) ?_
  refine RL.y rfl (y_mov (v := .int _ _) rfl) ?_
  refine RL.call rfl (l08Code_any ⟨vl, rfl, hl.ext hE12⟩ (hu.ext hE12)) ?_
  rintro r w3 ⟨rfl, hE3⟩
  have hE13 := hE12.trans hE3
  refine RL.y rfl (y_asg (v := .int _ _) rfl) ?_
  refine RL.nil ?_
  refine Fin.next ?_
  refine CW.seq ?_
  refine CW.seq ?_
  refine CW.region ?_
  refine RL.y rfl (y_mov (v := .int _ _) rfl) ?_
  refine RL.y rfl (y_ne rfl rfl) ?_
  refine RL.nil ?_
  refine Fin.next ?_
  refine CW.cond rfl rfl (fun h1 => ?_) (fun h1 => ?_)
  · with_reducible first | (replace h1 := deNF h1) | (replace h1 := of_decide_eq_true h1) | (replace h1 := of_decide_eq_false h1) | (replace h1 := deNT h1) | (replace h1 := deNN h1) | (replace h1 := bnT h1) | (replace h1 := bnF h1) | skip
    refine CW.seq ?_
    refine CW.region ?_
    refine RL.y rfl (y_mov (v := .int _ _) rfl) ?_
    refine RL.y rfl (y_asg rfl) ?_
    refine RL.y rfl (y_asg (v := .int _ _) rfl) ?_
    refine RL.nil ?_
    refine Fin.next ?_
    refine CW.ret ?_
    refine Fin.thenRet ?_
    refine Fin.ret2 rfl (by conv => lhs; whnf) (by conv => lhs; whnf) ?_
    exact ⟨_, rfl, by rw [(wl_bad h1).1, (wl_bad h1).2], hE13⟩
  · with_reducible first | (replace h1 := deNF h1) | (replace h1 := of_decide_eq_true h1) | (replace h1 := of_decide_eq_false h1) | (replace h1 := deNT h1) | (replace h1 := deNN h1) | (replace h1 := bnT h1) | (replace h1 := bnF h1) | skip
    obtain ⟨g1, g2, g3, g4, g5⟩ := moC_ok h1
    refine CW.skip ?_
    refine Fin.next ?_
    refine CW.seq ?_
    refine CW.region ?_
    refine RL.y rfl (y_asg rfl) ?_
    refine RL.nil ?_
    refine Fin.next ?_
    refine CW.seq ?_
    refine CW.seq ?_
    refine CW.region ?_
    refine RL.y rfl (y_asg rfl) ?_
    refine RL.nil ?_
    refine Fin.next ?_
    refine CW.block ?_
    refine CW.loop (fun m E w' => ∃ k : Nat, m = 20 - k ∧ k ≤ 20 ∧ agrees E [(5, .pointer (some ⟨w1.heap.size, 0, none⟩)), (2, u), (3, .int .i64 t), (11, .int .i64 ((wlN ss cs t k : Nat) - 1 : Int)), (12, .int .i64 (k : Int))] ∧ Ext w3 w') _ (⟨0, rfl, Nat.zero_le _, ⟨rfl, rfl, rfl, rfl, rfl, trivial⟩, Ext.refl _⟩) ?_
    · rintro m E w4 ⟨k, rfl, hk, hag, hE4⟩
      refine CW.re _ hag rfl ?_
      have hE04 := hE13.trans hE4
      refine CW.seq ?_
      refine CW.seq ?_
      refine CW.region ?_
      refine RL.y rfl (y_mov (v := .int _ _) rfl) ?_
      refine RL.y rfl (y_le rfl rfl) ?_
      refine RL.nil ?_
      refine Fin.next ?_
      refine CW.cond rfl rfl (fun h2 => ?_) (fun h2 => ?_)
      · with_reducible first | (replace h2 := deNF h2) | (replace h2 := of_decide_eq_true h2) | (replace h2 := of_decide_eq_false h2) | (replace h2 := deNT h2) | (replace h2 := deNN h2) | (replace h2 := bnT h2) | (replace h2 := bnF h2) | skip
        have hto : ((k : Int) + 1).toNat = k + 1 := by omega
        refine CW.skip ?_
        refine Fin.next ?_
        refine CW.seq ?_
        refine CW.block ?_
        refine CW.seq ?_
        refine CW.region ?_
        refine RL.y rfl (y_loads ag28 rfl (eqw ((hW.ext hE3).ext hE4)) rfl) ?_
        refine RL.y rfl (y_mov (by conv => lhs; whnf)) ?_
        refine RL.y rfl (y_mov (v := .int _ _) rfl) ?_
        refine RL.y rfl (y_mov (v := .int _ _) rfl) ?_
        refine RL.call rfl (l08Key_any (a := (k : Int)) ⟨vl, rfl, hl.ext hE04⟩ (hu.ext hE04) (by omega) g2 g3 (by omega)) ?_
        rintro r w5 ⟨rfl, hE5⟩
        rw [hto]
        refine RL.y rfl (y_mov (by conv => lhs; whnf)) ?_
        refine RL.y rfl (y_ext0 rfl) ?_
        refine RL.y rfl (y_ext1 rfl) ?_
        refine RL.y rfl (y_asg (v := .bool _) rfl) ?_
        refine RL.y rfl (y_asg (v := .bool _) rfl) ?_
        refine RL.nil ?_
        refine Fin.next ?_
        refine CW.seq ?_
        refine CW.region ?_
        refine RL.y rfl (y_mov (v := .bool _) rfl) ?_
        refine RL.nil ?_
        refine Fin.next ?_
        refine CW.cond rfl rfl (fun h3 => ?_) (fun h3 => ?_)
        · with_reducible first | (replace h3 := deNF h3) | (replace h3 := of_decide_eq_true h3) | (replace h3 := of_decide_eq_false h3) | (replace h3 := deNT h3) | (replace h3 := deNN h3) | (replace h3 := bnT h3) | (replace h3 := bnF h3) | skip
          refine CW.region ?_
          refine RL.y rfl (y_mov (v := .int _ _) rfl) ?_
          refine RL.y rfl (y_asg (v := .int _ _) rfl) ?_
          refine RL.nil ?_
          refine Fin.blockNormal ?_
          refine Fin.next ?_
          refine CW.region ?_
          refine RL.y rfl (y_mov (v := .int _ _) rfl) ?_
          refine RL.y rfl (y_add rfl rfl (IntWalk.i64_in _ (by omega))) ?_
          refine RL.y rfl (y_asg (v := .int _ _) rfl) ?_
          refine RL.nil ?_
          refine Fin.le ?_
          exact ⟨20 - (k + 1), by omega, k + 1, rfl, by omega, ⟨rfl, rfl, rfl, congrArg (Value.int .i64) (show (k : Int) = ((wlN ss cs t (k + 1) : Nat) - 1 : Int) by rw [wlN_yes h3]; omega), rfl, trivial⟩, hE4.trans hE5⟩
        · with_reducible first | (replace h3 := deNF h3) | (replace h3 := of_decide_eq_true h3) | (replace h3 := of_decide_eq_false h3) | (replace h3 := deNT h3) | (replace h3 := deNN h3) | (replace h3 := bnT h3) | (replace h3 := bnF h3) | skip
          refine CW.skip ?_
          refine Fin.blockNormal ?_
          refine Fin.next ?_
          refine CW.region ?_
          refine RL.y rfl (y_mov (v := .int _ _) rfl) ?_
          refine RL.y rfl (y_add rfl rfl (IntWalk.i64_in _ (by omega))) ?_
          refine RL.y rfl (y_asg (v := .int _ _) rfl) ?_
          refine RL.nil ?_
          refine Fin.le ?_
          exact ⟨20 - (k + 1), by omega, k + 1, rfl, by omega, ⟨rfl, rfl, rfl, by rw [wlN_no h3]; rfl, rfl, trivial⟩, hE4.trans hE5⟩
      · with_reducible first | (replace h2 := deNF h2) | (replace h2 := of_decide_eq_true h2) | (replace h2 := of_decide_eq_false h2) | (replace h2 := deNT h2) | (replace h2 := deNN h2) | (replace h2 := bnT h2) | (replace h2 := bnF h2) | skip
        obtain rfl : k = 20 := by omega
        refine CW.exit ?_
        refine Fin.thenExit ?_
        refine Fin.thenExit ?_
        refine Fin.blockHit ?_
        refine Fin.next ?_
        refine CW.seq ?_
        refine CW.seq ?_
        refine CW.region ?_
        refine RL.y rfl (y_mov (v := .int _ _) rfl) ?_
        refine RL.y rfl (y_lt rfl rfl) ?_
        refine RL.nil ?_
        refine Fin.next ?_
        refine CW.cond rfl rfl (fun h3 => ?_) (fun h3 => ?_)
        · with_reducible first | (replace h3 := deNF h3) | (replace h3 := of_decide_eq_true h3) | (replace h3 := of_decide_eq_false h3) | (replace h3 := deNT h3) | (replace h3 := deNN h3) | (replace h3 := bnT h3) | (replace h3 := bnF h3) | skip
          have hz : wlN ss cs t 20 = 0 := by omega
          refine CW.seq ?_
          refine CW.region ?_
          refine RL.y rfl (y_asg rfl) ?_
          refine RL.y rfl (y_asg rfl) ?_
          refine RL.nil ?_
          refine Fin.next ?_
          refine CW.ret ?_
          refine Fin.thenRet ?_
          refine Fin.ret2 rfl (by conv => lhs; whnf) (by conv => lhs; whnf) ?_
          exact ⟨_, rfl, by rw [(wl_none h1 hz).1, (wl_none h1 hz).2], hE04⟩
        · with_reducible first | (replace h3 := deNF h3) | (replace h3 := of_decide_eq_true h3) | (replace h3 := of_decide_eq_false h3) | (replace h3 := deNT h3) | (replace h3 := deNN h3) | (replace h3 := bnT h3) | (replace h3 := bnF h3) | skip
          have hz : wlN ss cs t 20 ≠ 0 := by omega
          refine CW.skip ?_
          refine Fin.next ?_
          refine CW.seq ?_
          refine CW.region ?_
          refine RL.y rfl (y_mov (v := .int _ _) rfl) ?_
          refine RL.y rfl (y_asg (v := .int _ _) rfl) ?_
          refine RL.y rfl (y_asg rfl) ?_
          refine RL.nil ?_
          refine Fin.next ?_
          refine CW.ret ?_
          refine Fin.ret2 rfl (by conv => lhs; whnf) (by conv => lhs; whnf) ?_
          exact ⟨_, rfl, by rw [(wl_some h1 hz).1, (wl_some h1 hz).2], hE04⟩

theorem implWearLimit_any {w : World} {q : Mk} {v u : Value} {ss : List (List Int)} {cs : List Int} {t : Int} (hv : RdL w v ss) (hu : SI w u cs) :
    Does Try.prog 15 #[mkA q, v, u, .int .i64 t] w (fun r w' => r = .tuple #[.int .i64 (wlV q ss cs t), .int .i64 (wlC q ss cs t)] ∧ Ext w w') := by
  obtain ⟨vl, rfl, vs, hr⟩ := hv
  refine enter Try.func15 rfl 37 Try.ntmps15 rfl (by kernel_rfl) ?_
  refine CW.seq ?_
  refine CW.region ?_
  refine RL.box (cs := [.int .i64 q.ch, .int .i64 q.dp, .int .i64 q.st, .int .i64 q.sm, .int .i64 q.le]) rfl rfl rfl (fun w1 hV hE1 => ?_)
  refine RL.box (cs := [vl]) rfl rfl rfl (fun w2 hW hE2 => ?_)
  have hE12 := hE1.trans hE2
  refine RL.y rfl (y_asg rfl) ?_
  refine RL.y rfl (y_asg rfl) ?_
  refine RL.nil ?_
  refine Fin.next ?_
  refine CW.seq ?_
  refine CW.seq ?_
  refine CW.region ?_
  refine RL.y rfl (y_loads ag25 rfl (eqw (hV.ext hE2)) rfl) ?_
  refine RL.y rfl (y_loads ag28 rfl (eqw (hW)) rfl) ?_
  refine RL.litL rfl lT66 (slice_one hr.1) rfl (fun ul w3 hL hE3 => ?_)
  refine RL.y rfl (y_mov (by conv => lhs; whnf)) ?_
  refine RL.lit1 rfl sT26 (slice_one hu) rfl (fun uk w4 hok hE4 hbk => ?_)
  have hE34 := hE3.trans hE4
  have hE14 := hE12.trans hE34
  refine RL.y rfl (y_mov (v := .int _ _) rfl) ?_
  refine RL.call rfl (wearCode_any (RdLs.one (hL.ext hE4) ⟨vs, hr.ext hE14⟩) (rdS_one hok.sv (hu.ext hE14))) ?_
  rintro r w5 ⟨rfl, hE5⟩
  rw [wcC_key]
  have hE15 := hE14.trans hE5
  refine RL.y rfl (y_asg (v := .int _ _) rfl) ?_
  refine RL.nil ?_
  refine Fin.next ?_
  refine CW.seq ?_
  refine CW.region ?_
  refine RL.y rfl (y_mov (v := .int _ _) rfl) ?_
  refine RL.y rfl (y_ne rfl rfl) ?_
  refine RL.nil ?_
  refine Fin.next ?_
  refine CW.cond rfl rfl (fun h1 => ?_) (fun h1 => ?_)
  · with_reducible first | (replace h1 := deNF h1) | (replace h1 := of_decide_eq_true h1) | (replace h1 := of_decide_eq_false h1) | (replace h1 := deNT h1) | (replace h1 := deNN h1) | (replace h1 := bnT h1) | (replace h1 := bnF h1) | skip
    refine CW.seq ?_
    refine CW.region ?_
    refine RL.y rfl (y_mov (v := .int _ _) rfl) ?_
    refine RL.y rfl (y_asg rfl) ?_
    refine RL.y rfl (y_asg (v := .int _ _) rfl) ?_
    refine RL.nil ?_
    refine Fin.next ?_
    refine CW.ret ?_
    refine Fin.thenRet ?_
    refine Fin.ret2 rfl (by conv => lhs; whnf) (by conv => lhs; whnf) ?_
    exact ⟨_, rfl, by rw [(wl_bad h1).1, (wl_bad h1).2], hE15⟩
  · with_reducible first | (replace h1 := deNF h1) | (replace h1 := of_decide_eq_true h1) | (replace h1 := of_decide_eq_false h1) | (replace h1 := deNT h1) | (replace h1 := deNN h1) | (replace h1 := bnT h1) | (replace h1 := bnF h1) | skip
    obtain ⟨g1, g2, g3, g4, g5⟩ := moC_ok h1
    have hW5 := (hW.ext hE34).ext hE5
    refine CW.skip ?_
    refine Fin.next ?_
    refine CW.seq ?_
    refine CW.region ?_
    refine RL.y rfl (y_asg rfl) ?_
    refine RL.nil ?_
    refine Fin.next ?_
    refine CW.seq ?_
    refine CW.block ?_
    refine CW.loop (fun m E w' => ∃ k : Nat, m = 20 - k ∧ k ≤ 20 ∧ agrees E [(5, .pointer (some ⟨w1.heap.size, 0, none⟩)), (2, u), (3, .int .i64 t), (11, .int .i64 (k : Int))] ∧ (∀ i, i < k → surTo ss cs (i + 1) t cs.length) ∧ Ext w5 w') _ (⟨0, rfl, Nat.zero_le _, ⟨rfl, rfl, rfl, rfl, trivial⟩, (fun i hi => absurd hi (Nat.not_lt_zero i)), Ext.refl _⟩) ?_
    · rintro m E w6 ⟨k, rfl, hk, hag, hall, hE6⟩
      refine CW.re _ hag rfl ?_
      have hE06 := hE15.trans hE6
      refine CW.seq ?_
      refine CW.seq ?_
      refine CW.region ?_
      refine RL.y rfl (y_mov (v := .int _ _) rfl) ?_
      refine RL.y rfl (y_le rfl rfl) ?_
      refine RL.y rfl (y_mov (v := .bool _) rfl) ?_
      refine RL.split (t := 24) rfl rfl (fun h2 => ?_) (fun h2 => ?_)
      · with_reducible first | (replace h2 := deNF h2) | (replace h2 := of_decide_eq_true h2) | (replace h2 := of_decide_eq_false h2) | (replace h2 := deNT h2) | (replace h2 := deNN h2) | (replace h2 := bnT h2) | (replace h2 := bnF h2) | skip
        have hto : ((k : Int) + 1).toNat = k + 1 := by omega
        refine RL.take (t := 24) rfl rfl rfl ?_
        refine RL.y rfl (y_loads ag28 rfl (eqw (hW5.ext hE6)) rfl) ?_
        refine RL.take (t := 24) rfl rfl rfl ?_
        refine RL.y rfl (y_mov (by conv => lhs; whnf)) ?_
        refine RL.take (t := 24) rfl rfl rfl ?_
        refine RL.y rfl (y_mov (v := .int _ _) rfl) ?_
        refine RL.take (t := 24) rfl rfl rfl ?_
        refine RL.y rfl (y_mov (v := .int _ _) rfl) ?_
        refine RL.take (t := 24) rfl rfl rfl ?_
        refine RL.call rfl (surelyOpens_any (a := (k : Int)) ⟨vl, rfl, vs, hr.ext hE06⟩ (hu.ext hE06) (by omega) g2 g3 (by omega)) ?_
        rintro r w7 ⟨rfl, hE7⟩
        rw [hto]
        refine RL.y rfl (y_pickT (v := .bool _) rfl rfl) ?_
        refine RL.nil ?_
        refine Fin.next ?_
        refine CW.cond rfl rfl (fun h3 => ?_) (fun h3 => ?_)
        · with_reducible first | (replace h3 := deNF h3) | (replace h3 := of_decide_eq_true h3) | (replace h3 := of_decide_eq_false h3) | (replace h3 := deNT h3) | (replace h3 := deNN h3) | (replace h3 := bnT h3) | (replace h3 := bnF h3) | skip
          refine CW.skip ?_
          refine Fin.next ?_
          refine CW.block ?_
          refine CW.region ?_
          refine RL.y rfl (y_mov (v := .int _ _) rfl) ?_
          refine RL.y rfl (y_add rfl rfl (IntWalk.i64_in _ (by omega))) ?_
          refine RL.y rfl (y_asg (v := .int _ _) rfl) ?_
          refine RL.nil ?_
          refine Fin.blockNormal ?_
          refine Fin.le ?_
          exact ⟨20 - (k + 1), by omega, k + 1, rfl, by omega, ⟨rfl, rfl, rfl, rfl, trivial⟩, all_succ hall h3, hE6.trans hE7⟩
        · with_reducible first | (replace h3 := deNF h3) | (replace h3 := of_decide_eq_true h3) | (replace h3 := of_decide_eq_false h3) | (replace h3 := deNT h3) | (replace h3 := deNN h3) | (replace h3 := bnT h3) | (replace h3 := bnF h3) | skip
          have hN : wlN ss cs t 20 = k := pre_stop (fun i hi => decide_eq_true (hall i hi)) (decide_eq_false h3) 20 hk
          refine CW.exit ?_
          refine Fin.thenExit ?_
          refine Fin.thenExit ?_
          refine Fin.blockHit ?_
          refine Fin.next ?_
          refine CW.seq ?_
          refine CW.seq ?_
          refine CW.region ?_
          refine RL.y rfl (y_mov (v := .int _ _) rfl) ?_
          refine RL.y rfl (y_eq rfl rfl) ?_
          refine RL.nil ?_
          refine Fin.next ?_
          refine CW.cond rfl rfl (fun h4 => ?_) (fun h4 => ?_)
          · with_reducible first | (replace h4 := deNF h4) | (replace h4 := of_decide_eq_true h4) | (replace h4 := of_decide_eq_false h4) | (replace h4 := deNT h4) | (replace h4 := deNN h4) | (replace h4 := bnT h4) | (replace h4 := bnF h4) | skip
            have hz : wlN ss cs t 20 = 0 := by omega
            refine CW.seq ?_
            refine CW.region ?_
            refine RL.y rfl (y_asg rfl) ?_
            refine RL.y rfl (y_asg rfl) ?_
            refine RL.nil ?_
            refine Fin.next ?_
            refine CW.ret ?_
            refine Fin.thenRet ?_
            refine Fin.ret2 rfl (by conv => lhs; whnf) (by conv => lhs; whnf) ?_
            exact ⟨_, rfl, by rw [(wl_none h1 hz).1, (wl_none h1 hz).2], hE06.trans hE7⟩
          · with_reducible first | (replace h4 := deNF h4) | (replace h4 := of_decide_eq_true h4) | (replace h4 := of_decide_eq_false h4) | (replace h4 := deNT h4) | (replace h4 := deNN h4) | (replace h4 := bnT h4) | (replace h4 := bnF h4) | skip
            have hz : wlN ss cs t 20 ≠ 0 := by omega
            refine CW.skip ?_
            refine Fin.next ?_
            refine CW.seq ?_
            refine CW.region ?_
            refine RL.y rfl (y_mov (v := .int _ _) rfl) ?_
            refine RL.y rfl (y_sub rfl rfl (IntWalk.i64_in _ (by omega))) ?_
            refine RL.y rfl (y_asg (v := .int _ _) rfl) ?_
            refine RL.y rfl (y_asg rfl) ?_
            refine RL.nil ?_
            refine Fin.next ?_
            refine CW.ret ?_
            refine Fin.ret2 rfl (by conv => lhs; whnf) (by conv => lhs; whnf) ?_
            exact ⟨_, rfl, by rw [(wl_some h1 hz).1, (wl_some h1 hz).2, hN], hE06.trans hE7⟩
      · with_reducible first | (replace h2 := deNF h2) | (replace h2 := of_decide_eq_true h2) | (replace h2 := of_decide_eq_false h2) | (replace h2 := deNT h2) | (replace h2 := deNN h2) | (replace h2 := bnT h2) | (replace h2 := bnF h2) | skip
        obtain rfl : k = 20 := by omega
        have hN : wlN ss cs t 20 = 20 := pre_all (fun i hi => decide_eq_true (hall i hi))
        refine RL.pass (t := 24) rfl rfl rfl rfl ?_
        refine RL.pass (t := 24) rfl rfl rfl rfl ?_
        refine RL.pass (t := 24) rfl rfl rfl rfl ?_
        refine RL.pass (t := 24) rfl rfl rfl rfl ?_
        refine RL.pass (t := 24) rfl rfl rfl rfl ?_
        refine RL.y rfl (y_pickF (v := .bool _) rfl rfl) ?_
        refine RL.nil ?_
        refine Fin.next ?_
        refine CW.condF rfl rfl ?_
        refine CW.exit ?_
        refine Fin.thenExit ?_
        refine Fin.thenExit ?_
        refine Fin.blockHit ?_
        refine Fin.next ?_
        refine CW.seq ?_
        refine CW.seq ?_
        refine CW.region ?_
        refine RL.y rfl (y_mov (v := .int _ _) rfl) ?_
        refine RL.y rfl (y_eq rfl rfl) ?_
        refine RL.nil ?_
        refine Fin.next ?_
        refine CW.condF rfl ((by decide)) ?_
        have hz : wlN ss cs t 20 ≠ 0 := by omega
        refine CW.skip ?_
        refine Fin.next ?_
        refine CW.seq ?_
        refine CW.region ?_
        refine RL.y rfl (y_mov (v := .int _ _) rfl) ?_
        refine RL.y rfl (y_sub rfl rfl (IntWalk.i64_in _ (by omega))) ?_
        refine RL.y rfl (y_asg (v := .int _ _) rfl) ?_
        refine RL.y rfl (y_asg rfl) ?_
        refine RL.nil ?_
        refine Fin.next ?_
        refine CW.ret ?_
        refine Fin.ret2 rfl (by conv => lhs; whnf) (by conv => lhs; whnf) ?_
        exact ⟨_, rfl, by rw [(wl_some h1 hz).1, (wl_some h1 hz).2, hN], hE06⟩

theorem frL_yes {set : List Int} {t : Int} {n : Nat} (h : fre set (n : Int) t) : frL set t (n + 1) = frL set t n ++ [(n : Int)] := idxs_yes (by simpa using h)
theorem frL_no {set : List Int} {t : Int} {n : Nat} (h : ¬ fre set (n : Int) t) : frL set t (n + 1) = frL set t n := idxs_no (by simpa using h)
theorem fr_bad {q : Mk} {ss : List (List Int)} {c t : Int} (h : loC q ss 0 t ≠ 0) : frC q ss c t = loC q ss 0 t ∧ frV q ss c t = [] := by
  have h1 : frC q ss c t = loC q ss 0 t := by
    unfold frC loC at *
    by_cases hl : lck q ss
    · rw [if_neg (not_not_intro hl)] at h ⊢
      rw [if_neg (not_not_intro hl)]
      by_cases hn : nums 0 t
      · rw [if_pos hn] at h; exact absurd rfl h
      · rw [if_neg (fun e => hn e.1), if_neg hn]
    · rw [if_pos hl, if_pos hl]
  exact ⟨h1, by unfold frV; rw [h1, if_neg h]⟩
theorem fr_out {q : Mk} {ss : List (List Int)} {c t : Int} (h : loC q ss 0 t = 0) (h2 : ¬ (0 ≤ c ∧ c ≤ q.ch - 1)) : frC q ss c t = 2 ∧ frV q ss c t = [] := by
  obtain ⟨hl, hn⟩ := loC_zero.1 h
  have h1 : frC q ss c t = 2 := by unfold frC; rw [if_neg (not_not_intro hl), if_neg (fun e => h2 e.2)]
  exact ⟨h1, by unfold frV; rw [h1, if_neg (by omega)]⟩
theorem fr_in {q : Mk} {ss : List (List Int)} {c t : Int} (h : loC q ss 0 t = 0) (h2 : 0 ≤ c ∧ c ≤ q.ch - 1) : frC q ss c t = 0 ∧ frV q ss c t = frL (ss.getD c.toNat []) t 81 := by
  obtain ⟨hl, hn⟩ := loC_zero.1 h
  have h1 : frC q ss c t = 0 := frC_zero.2 ⟨hl, hn, h2⟩
  exact ⟨h1, by unfold frV; rw [if_pos h1]⟩

theorem specFreePlaces_any {w : World} {q : Mk} {v : Value} {ss : List (List Int)} {c t : Int} (hv : RdL w v ss) :
    Does Try.prog 23 #[mkA q, v, .int .i64 c, .int .i64 t] w (fun r w' => ∃ v1, r = .tuple #[v1, .int .i64 (frC q ss c t)] ∧ OV w' w.heap.size 2 v1 (ints (frV q ss c t)) ∧ Ext w w') := by
  obtain ⟨vl, rfl, vs, hr⟩ := hv
  refine enter Try.func23 rfl 48 Try.ntmps23 rfl (by kernel_rfl) ?_
  refine CW.seq ?_
  refine CW.region ?_
  refine RL.box (cs := [.int .i64 q.ch, .int .i64 q.dp, .int .i64 q.st, .int .i64 q.sm, .int .i64 q.le]) rfl rfl rfl (fun w1 hV hE1 => ?_)
  refine RL.box (cs := [vl]) rfl rfl rfl (fun w2 hW hE2 => ?_)
  have hE12 := hE1.trans hE2
  refine RL.y rfl (y_asg rfl) ?_
  refine RL.y rfl (y_asg rfl) ?_
  refine RL.nil ?_
  refine Fin.next ?_
  refine CW.seq ?_
  refine CW.region ?_
  refine RL.y rfl (y_loads ag25 rfl (eqw (hV.ext hE2)) rfl) ?_
  refine RL.y rfl (y_loads ag28 rfl (eqw (hW)) rfl) ?_
  refine RL.y rfl (y_mov (v := .int _ _) rfl) ?_
  refine RL.call rfl (l08Lock_any ⟨vl, rfl, vs, hr.ext hE12⟩) ?_
  rintro r w3 ⟨rfl, hE3⟩
  have hE13 := hE12.trans hE3
  refine RL.y rfl (y_asg (v := .int _ _) rfl) ?_
  refine RL.nil ?_
  refine Fin.next ?_
  refine CW.seq ?_
  refine CW.seq ?_
  refine CW.region ?_
  refine RL.y rfl (y_mov (v := .int _ _) rfl) ?_
  refine RL.y rfl (y_eq rfl rfl) ?_
  refine RL.y rfl (y_mov (v := .bool _) rfl) ?_
  refine RL.split (t := 19) rfl rfl (fun h1 => ?_) (fun h1 => ?_)
  · with_reducible first | (replace h1 := deNF h1) | (replace h1 := of_decide_eq_true h1) | (replace h1 := of_decide_eq_false h1) | (replace h1 := deNT h1) | (replace h1 := deNN h1) | (replace h1 := bnT h1) | (replace h1 := bnF h1) | skip
    obtain ⟨hl, hn⟩ := loC_zero.1 h1
    obtain ⟨g1, g2, g3, g4, g5⟩ := lck_ok hl
    refine RL.take (t := 19) rfl rfl rfl ?_
    refine RL.y rfl (y_mov (v := .int _ _) rfl) ?_
    refine RL.take (t := 19) rfl rfl rfl ?_
    refine RL.y rfl (y_fa fa25_0 rfl rfl) ?_
    refine RL.take (t := 19) rfl rfl rfl ?_
    refine RL.y rfl (y_loadv sc2 (eqw ((hV.ext hE2).ext hE3)) rfl rfl) ?_
    refine RL.take (t := 19) rfl rfl rfl ?_
    refine RL.y rfl (y_sub rfl rfl (IntWalk.i64_in _ (by omega))) ?_
    refine RL.take (t := 19) rfl rfl rfl ?_
    refine RL.call rfl (l01In_any) ?_
    rintro r w4 ⟨rfl, rfl⟩
    refine RL.take (t := 19) rfl rfl rfl ?_
    refine RL.y rfl (y_not rfl) ?_
    refine RL.y rfl (y_pickT (v := .bool _) rfl rfl) ?_
    refine RL.nil ?_
    refine Fin.next ?_
    refine CW.cond rfl rfl (fun h2 => ?_) (fun h2 => ?_)
    · with_reducible first | (replace h2 := deNF h2) | (replace h2 := of_decide_eq_true h2) | (replace h2 := of_decide_eq_false h2) | (replace h2 := deNT h2) | (replace h2 := deNN h2) | (replace h2 := bnT h2) | (replace h2 := bnF h2) | skip
      refine CW.region ?_
      refine RL.y rfl (y_asg rfl) ?_
      refine RL.nil ?_
      refine Fin.next ?_
      refine CW.seq ?_
      refine CW.seq ?_
      refine CW.region ?_
      refine RL.y rfl (y_mov (v := .int _ _) rfl) ?_
      refine RL.y rfl (y_ne rfl rfl) ?_
      refine RL.nil ?_
      refine Fin.next ?_
      refine CW.condT rfl ((by decide)) ?_
      refine CW.seq ?_
      refine CW.region ?_
      refine RL.y rfl (y_mov (v := .int _ _) rfl) ?_
      refine RL.y rfl (y_asg rfl) ?_
      refine RL.y rfl (y_asg (v := .int _ _) rfl) ?_
      refine RL.nil ?_
      refine Fin.next ?_
      refine CW.ret ?_
      refine Fin.thenRet ?_
      refine Fin.ret2 rfl (by conv => lhs; whnf) (by conv => lhs; whnf) ?_
      exact ⟨_, rfl, _, by rw [(fr_out h1 h2).1], by rw [(fr_out h1 h2).2]; exact OV.nil _ _ _, hE13⟩
    · with_reducible first | (replace h2 := deNF h2) | (replace h2 := of_decide_eq_true h2) | (replace h2 := of_decide_eq_false h2) | (replace h2 := deNT h2) | (replace h2 := deNN h2) | (replace h2 := bnT h2) | (replace h2 := bnF h2) | skip
      refine CW.skip ?_
      refine Fin.next ?_
      refine CW.seq ?_
      refine CW.seq ?_
      refine CW.region ?_
      refine RL.y rfl (y_mov (v := .int _ _) rfl) ?_
      refine RL.y rfl (y_ne rfl rfl) ?_
      refine RL.nil ?_
      refine Fin.next ?_
      refine CW.condF rfl ((decide_eq_false (not_not_intro h1))) ?_
      have hcl : c.toNat < ss.length := by omega
      have hrs := g4 _ (List.getElem_mem hcl)
      have e1 : ss.getD c.toNat [] = ss[c.toNat] := getD_lt hcl
      have hci : ((c.toNat : Nat) : Int) = c := by omega
      refine CW.skip ?_
      refine Fin.next ?_
      refine CW.seq ?_
      refine CW.region ?_
      refine RL.lit0 rfl sT29 (fun vo w4 ho4 hE4 hb4 => ?_)
      refine RL.y rfl (y_asg (by conv => lhs; whnf)) ?_
      refine RL.nil ?_
      refine Fin.next ?_
      refine CW.seq ?_
      refine CW.seq ?_
      refine CW.region ?_
      refine RL.y rfl (y_asg rfl) ?_
      refine RL.nil ?_
      refine Fin.next ?_
      refine CW.block ?_
      refine CW.loop (fun m E w' => ∃ (k : Nat) (vo : Value), m = 81 - k ∧ k ≤ 81 ∧ agrees E [(5, .pointer (some ⟨w1.heap.size, 0, none⟩)), (2, .int .i64 c), (3, .int .i64 t), (11, vo), (12, .int .i64 (k : Int))] ∧ OV w' w3.heap.size 2 vo (ints (frL ss[c.toNat] t k)) ∧ Ext w3 w') _ (⟨0, vo, rfl, Nat.zero_le _, ⟨rfl, rfl, rfl, rfl, rfl, trivial⟩, ho4, hE4⟩) ?_
      · rintro m E w5 ⟨k, vo, rfl, hk, hag, ho5, hE5⟩
        refine CW.re _ hag rfl ?_
        have hE05 := hE13.trans hE5
        have hfl : (frL ss[c.toNat] t k).length ≤ k := idxs_le _ _
        refine CW.seq ?_
        refine CW.seq ?_
        refine CW.region ?_
        refine RL.y rfl (y_mov (v := .int _ _) rfl) ?_
        refine RL.y rfl (y_le rfl rfl) ?_
        refine RL.nil ?_
        refine Fin.next ?_
        refine CW.cond rfl rfl (fun h3 => ?_) (fun h3 => ?_)
        · with_reducible first | (replace h3 := deNF h3) | (replace h3 := of_decide_eq_true h3) | (replace h3 := of_decide_eq_false h3) | (replace h3 := deNT h3) | (replace h3 := deNN h3) | (replace h3 := bnT h3) | (replace h3 := bnF h3) | skip
          refine CW.skip ?_
          refine Fin.next ?_
          refine CW.seq ?_
          refine CW.block ?_
          refine CW.seq ?_
          refine CW.region ?_
          refine RL.y rfl (y_fa fa28_0 rfl rfl) ?_
          refine RL.y rfl (y_loadv sc26 (eqw ((hW.ext hE3).ext hE5)) rfl rfl) ?_
          refine RL.y rfl (y_mov (v := .int _ _) rfl) ?_
          refine RL.y rfl (y_ixi sT26 (eqw (hr.1.ext hE05)) h2.1 (by rw [hr.2.1]; omega) rfl rfl) ?_
          refine RL.y rfl (y_load sc29 (eqw (hr.1.ext hE05)) (hr.at hcl) rfl) ?_
          refine RL.y rfl (y_mov (v := .int _ _) rfl) ?_
          refine RL.y rfl (y_mov (v := .int _ _) rfl) ?_
          refine RL.call rfl (l08Free_any ((hr.row hcl).ext hE05) hrs (by omega)) ?_
          rintro r w6 ⟨rfl, rfl⟩
          refine RL.nil ?_
          refine Fin.next ?_
          refine CW.cond rfl rfl (fun h4 => ?_) (fun h4 => ?_)
          · with_reducible first | (replace h4 := deNF h4) | (replace h4 := of_decide_eq_true h4) | (replace h4 := of_decide_eq_false h4) | (replace h4 := deNT h4) | (replace h4 := deNN h4) | (replace h4 := bnT h4) | (replace h4 := bnF h4) | skip
            refine CW.region ?_
            refine RL.y rfl (y_mov (by conv => lhs; whnf)) ?_
            refine RL.y rfl (y_mov (v := .int _ _) rfl) ?_
            refine RL.app1i rfl rfl sT29 (by omega) ho5 (by omega) hE5.size rfl (fun _ => rfl) (fun u v6 w6 ho6 hg6 hn6 => ?_)
            refine RL.y rfl (y_asg (by conv => lhs; whnf)) ?_
            refine RL.nil ?_
            refine Fin.blockNormal ?_
            refine Fin.next ?_
            refine CW.region ?_
            refine RL.y rfl (y_mov (v := .int _ _) rfl) ?_
            refine RL.y rfl (y_add rfl rfl (IntWalk.i64_in _ (by omega))) ?_
            refine RL.y rfl (y_asg (v := .int _ _) rfl) ?_
            refine RL.nil ?_
            refine Fin.le ?_
            exact ⟨81 - (k + 1), by omega, k + 1, v6, rfl, by omega, ⟨rfl, rfl, rfl, rfl, rfl, trivial⟩, by rw [frL_yes h4]; exact ho6, hE5.grown hg6 (fun b hb => (ho5.lt b hb).1)⟩
          · with_reducible first | (replace h4 := deNF h4) | (replace h4 := of_decide_eq_true h4) | (replace h4 := of_decide_eq_false h4) | (replace h4 := deNT h4) | (replace h4 := deNN h4) | (replace h4 := bnT h4) | (replace h4 := bnF h4) | skip
            refine CW.skip ?_
            refine Fin.blockNormal ?_
            refine Fin.next ?_
            refine CW.region ?_
            refine RL.y rfl (y_mov (v := .int _ _) rfl) ?_
            refine RL.y rfl (y_add rfl rfl (IntWalk.i64_in _ (by omega))) ?_
            refine RL.y rfl (y_asg (v := .int _ _) rfl) ?_
            refine RL.nil ?_
            refine Fin.le ?_
            exact ⟨81 - (k + 1), by omega, k + 1, vo, rfl, by omega, ⟨rfl, rfl, rfl, rfl, rfl, trivial⟩, by rw [frL_no h4]; exact ho5, hE5⟩
        · with_reducible first | (replace h3 := deNF h3) | (replace h3 := of_decide_eq_true h3) | (replace h3 := of_decide_eq_false h3) | (replace h3 := deNT h3) | (replace h3 := deNN h3) | (replace h3 := bnT h3) | (replace h3 := bnF h3) | skip
          obtain rfl : k = 81 := by omega
          refine CW.exit ?_
          refine Fin.thenExit ?_
          refine Fin.thenExit ?_
          refine Fin.blockHit ?_
          refine Fin.next ?_
          refine CW.seq ?_
          refine CW.region ?_
          refine RL.y rfl (y_mov (by conv => lhs; whnf)) ?_
          refine RL.y rfl (y_asg (by conv => lhs; whnf)) ?_
          refine RL.y rfl (y_asg rfl) ?_
          refine RL.nil ?_
          refine Fin.next ?_
          refine CW.ret ?_
          refine Fin.ret2 rfl (by conv => lhs; whnf) (by conv => lhs; whnf) ?_
          exact ⟨_, rfl, _, by rw [(fr_in h1 h2).1], by rw [(fr_in h1 h2).2, e1]; exact ho5.mono hE13.size, hE05⟩
  · with_reducible first | (replace h1 := deNF h1) | (replace h1 := of_decide_eq_true h1) | (replace h1 := of_decide_eq_false h1) | (replace h1 := deNT h1) | (replace h1 := deNN h1) | (replace h1 := bnT h1) | (replace h1 := bnF h1) | skip
    refine RL.pass (t := 19) rfl rfl rfl rfl ?_
    refine RL.pass (t := 19) rfl rfl rfl rfl ?_
    refine RL.pass (t := 19) rfl rfl rfl rfl ?_
    refine RL.pass (t := 19) rfl rfl rfl rfl ?_
    refine RL.pass (t := 19) rfl rfl rfl rfl ?_
    refine RL.pass (t := 19) rfl rfl rfl rfl ?_
    refine RL.y rfl (y_pickF (v := .bool _) rfl rfl) ?_
    refine RL.nil ?_
    refine Fin.next ?_
    refine CW.condF rfl rfl ?_
    refine CW.skip ?_
    refine Fin.next ?_
    refine CW.seq ?_
    refine CW.seq ?_
    refine CW.region ?_
    refine RL.y rfl (y_mov (v := .int _ _) rfl) ?_
    refine RL.y rfl (y_ne rfl rfl) ?_
    refine RL.nil ?_
    refine Fin.next ?_
    refine CW.condT rfl ((decide_eq_true h1)) ?_
    refine CW.seq ?_
    refine CW.region ?_
    refine RL.y rfl (y_mov (v := .int _ _) rfl) ?_
    refine RL.y rfl (y_asg rfl) ?_
    refine RL.y rfl (y_asg (v := .int _ _) rfl) ?_
    refine RL.nil ?_
    refine Fin.next ?_
    refine CW.ret ?_
    refine Fin.thenRet ?_
    refine Fin.ret2 rfl (by conv => lhs; whnf) (by conv => lhs; whnf) ?_
    exact ⟨_, rfl, _, by rw [(fr_bad h1).1], by rw [(fr_bad h1).2]; exact OV.nil _ _ _, hE13⟩

theorem implFreePlaces_any {w : World} {q : Mk} {v : Value} {ss : List (List Int)} {c t : Int} (hv : RdL w v ss) :
    Does Try.prog 26 #[mkA q, v, .int .i64 c, .int .i64 t] w (fun r w' => ∃ v1, r = .tuple #[v1, .int .i64 (frC q ss c t)] ∧ OV w' w.heap.size 2 v1 (ints (frV q ss c t)) ∧ Ext w w') := by
  obtain ⟨vl, rfl, vs, hr⟩ := hv
  refine enter Try.func26 rfl 48 Try.ntmps26 rfl (by kernel_rfl) ?_
  refine CW.seq ?_
  refine CW.region ?_
  refine RL.box (cs := [.int .i64 q.ch, .int .i64 q.dp, .int .i64 q.st, .int .i64 q.sm, .int .i64 q.le]) rfl rfl rfl (fun w1 hV hE1 => ?_)
  refine RL.box (cs := [vl]) rfl rfl rfl (fun w2 hW hE2 => ?_)
  have hE12 := hE1.trans hE2
  refine RL.y rfl (y_asg rfl) ?_
  refine RL.y rfl (y_asg rfl) ?_
  refine RL.nil ?_
  refine Fin.next ?_
  refine CW.seq ?_
  refine CW.seq ?_
  refine CW.region ?_
  refine RL.y rfl (y_loads ag25 rfl (eqw (hV.ext hE2)) rfl) ?_
  refine RL.y rfl (y_loads ag28 rfl (eqw (hW)) rfl) ?_
  refine RL.litL rfl lT66 (slice_one hr.1) rfl (fun ul w3 hL hE3 => ?_)
  have hE03 := hE12.trans hE3
  refine RL.y rfl (y_mov (v := .int _ _) rfl) ?_
  refine RL.call rfl (wearCode_any (RdLs.one hL ⟨vs, hr.ext hE03⟩) rdS_nil) ?_
  rintro r w4 ⟨rfl, hE4⟩
  rw [wcC_lock]
  have hE04 := hE03.trans hE4
  refine RL.y rfl (y_asg (v := .int _ _) rfl) ?_
  refine RL.nil ?_
  refine Fin.next ?_
  refine CW.seq ?_
  refine CW.region ?_
  refine RL.y rfl (y_mov (v := .int _ _) rfl) ?_
  refine RL.y rfl (y_ne rfl rfl) ?_
  refine RL.nil ?_
  refine Fin.next ?_
  refine CW.cond rfl rfl (fun h1 => ?_) (fun h1 => ?_)
  · with_reducible first | (replace h1 := deNF h1) | (replace h1 := of_decide_eq_true h1) | (replace h1 := of_decide_eq_false h1) | (replace h1 := deNT h1) | (replace h1 := deNN h1) | (replace h1 := bnT h1) | (replace h1 := bnF h1) | skip
    refine CW.seq ?_
    refine CW.region ?_
    refine RL.y rfl (y_mov (v := .int _ _) rfl) ?_
    refine RL.y rfl (y_asg rfl) ?_
    refine RL.y rfl (y_asg (v := .int _ _) rfl) ?_
    refine RL.nil ?_
    refine Fin.next ?_
    refine CW.ret ?_
    refine Fin.thenRet ?_
    refine Fin.ret2 rfl (by conv => lhs; whnf) (by conv => lhs; whnf) ?_
    exact ⟨_, rfl, _, by rw [(fr_bad h1).1], by rw [(fr_bad h1).2]; exact OV.nil _ _ _, hE04⟩
  · with_reducible first | (replace h1 := deNF h1) | (replace h1 := of_decide_eq_true h1) | (replace h1 := of_decide_eq_false h1) | (replace h1 := deNT h1) | (replace h1 := deNN h1) | (replace h1 := bnT h1) | (replace h1 := bnF h1) | skip
    obtain ⟨hl, hn⟩ := loC_zero.1 h1
    obtain ⟨g1, g2, g3, g4, g5⟩ := lck_ok hl
    have hV4 := ((hV.ext hE2).ext hE3).ext hE4
    have hW4 := (hW.ext hE3).ext hE4
    refine CW.skip ?_
    refine Fin.next ?_
    refine CW.seq ?_
    refine CW.seq ?_
    refine CW.region ?_
    refine RL.y rfl (y_mov (v := .int _ _) rfl) ?_
    refine RL.y rfl (y_fa fa25_0 rfl rfl) ?_
    refine RL.y rfl (y_loadv sc2 (eqw (hV4)) rfl rfl) ?_
    refine RL.y rfl (y_sub rfl rfl (IntWalk.i64_in _ (by omega))) ?_
    refine RL.call rfl (within_any) ?_
    rintro r w5 ⟨rfl, rfl⟩
    refine RL.y rfl (y_not rfl) ?_
    refine RL.nil ?_
    refine Fin.next ?_
    refine CW.cond rfl rfl (fun h2 => ?_) (fun h2 => ?_)
    · with_reducible first | (replace h2 := deNF h2) | (replace h2 := of_decide_eq_true h2) | (replace h2 := of_decide_eq_false h2) | (replace h2 := deNT h2) | (replace h2 := deNN h2) | (replace h2 := bnT h2) | (replace h2 := bnF h2) | skip
      refine CW.seq ?_
      refine CW.region ?_
      refine RL.y rfl (y_asg rfl) ?_
      refine RL.y rfl (y_asg rfl) ?_
      refine RL.nil ?_
      refine Fin.next ?_
      refine CW.ret ?_
      refine Fin.thenRet ?_
      refine Fin.ret2 rfl (by conv => lhs; whnf) (by conv => lhs; whnf) ?_
      exact ⟨_, rfl, _, by rw [(fr_out h1 h2).1], by rw [(fr_out h1 h2).2]; exact OV.nil _ _ _, hE04⟩
    · with_reducible first | (replace h2 := deNF h2) | (replace h2 := of_decide_eq_true h2) | (replace h2 := of_decide_eq_false h2) | (replace h2 := deNT h2) | (replace h2 := deNN h2) | (replace h2 := bnT h2) | (replace h2 := bnF h2) | skip
      have hcl : c.toNat < ss.length := by omega
      have hrs := g4 _ (List.getElem_mem hcl)
      have e1 : ss.getD c.toNat [] = ss[c.toNat] := getD_lt hcl
      have hfar := frL_far (g5 _ (List.getElem_mem hcl)) (by omega) g2.2 hn.2.2
      refine CW.skip ?_
      refine Fin.next ?_
      refine CW.seq ?_
      refine CW.region ?_
      refine RL.lit0 rfl sT29 (fun vo w5 ho5 hE5 hb5 => ?_)
      refine RL.y rfl (y_asg (by conv => lhs; whnf)) ?_
      refine RL.nil ?_
      refine Fin.next ?_
      refine CW.seq ?_
      refine CW.seq ?_
      refine CW.region ?_
      refine RL.y rfl (y_fa fa25_1 rfl rfl) ?_
      refine RL.y rfl (y_loadv sc2 (eqw (hV4.ext hE5)) rfl rfl) ?_
      refine RL.y rfl (y_mul rfl rfl (IntWalk.i64_in _ (by omega))) ?_
      refine RL.y rfl (y_mov rfl) ?_
      refine RL.nil ?_
      refine Fin.next ?_
      refine CW.block ?_
      refine CW.loop (fun m E w' => ∃ (k : Nat) (vo : Value), m = (10 * q.dp).toNat - k ∧ k ≤ (10 * q.dp).toNat ∧ agrees E [(5, .pointer (some ⟨w1.heap.size, 0, none⟩)), (2, .int .i64 c), (3, .int .i64 t), (11, vo), (30, .int .i64 (10 * q.dp)), (31, .int .i64 (k : Int))] ∧ OV w' w4.heap.size 2 vo (ints (frL ss[c.toNat] t k)) ∧ Ext w4 w') _ (⟨0, vo, rfl, Nat.zero_le _, ⟨rfl, rfl, rfl, rfl, rfl, rfl, trivial⟩, ho5, hE5⟩) ?_
      · rintro m E w6 ⟨k, vo, rfl, hk, hag, ho6, hE6⟩
        refine CW.re _ hag rfl ?_
        have hE06 := hE04.trans hE6
        have hfl : (frL ss[c.toNat] t k).length ≤ k := idxs_le _ _
        refine CW.seq ?_
        refine CW.region ?_
        refine RL.y rfl (y_lt rfl rfl) ?_
        refine RL.nil ?_
        refine Fin.next ?_
        refine CW.seq ?_
        refine CW.cond rfl rfl (fun h3 => ?_) (fun h3 => ?_)
        · with_reducible first | (replace h3 := deNF h3) | (replace h3 := of_decide_eq_true h3) | (replace h3 := of_decide_eq_false h3) | (replace h3 := deNT h3) | (replace h3 := deNN h3) | (replace h3 := bnT h3) | (replace h3 := bnF h3) | skip
          refine CW.skip ?_
          refine Fin.next ?_
          refine CW.seq ?_
          refine CW.block ?_
          refine CW.seq ?_
          refine CW.region ?_
          refine RL.y rfl (y_mov (v := .int _ _) rfl) ?_
          refine RL.y rfl (y_asg (v := .int _ _) rfl) ?_
          refine RL.nil ?_
          refine Fin.next ?_
          refine CW.seq ?_
          refine CW.region ?_
          refine RL.y rfl (y_fa fa28_0 rfl rfl) ?_
          refine RL.y rfl (y_loadv sc26 (eqw (hW4.ext hE6)) rfl rfl) ?_
          refine RL.y rfl (y_mov (v := .int _ _) rfl) ?_
          refine RL.y rfl (y_ixi sT26 (eqw (hr.1.ext hE06)) h2.1 (by rw [hr.2.1]; omega) rfl rfl) ?_
          refine RL.y rfl (y_load sc29 (eqw (hr.1.ext hE06)) (hr.at hcl) rfl) ?_
          refine RL.y rfl (y_mov (v := .int _ _) rfl) ?_
          refine RL.y rfl (y_mov (v := .int _ _) rfl) ?_
          refine RL.call rfl (isFree_any ((hr.row hcl).ext hE06) hrs (by omega)) ?_
          rintro r w7 ⟨rfl, hE7⟩
          have hE67 := hE6.trans hE7
          refine RL.nil ?_
          refine Fin.next ?_
          refine CW.cond rfl rfl (fun h4 => ?_) (fun h4 => ?_)
          · with_reducible first | (replace h4 := deNF h4) | (replace h4 := of_decide_eq_true h4) | (replace h4 := of_decide_eq_false h4) | (replace h4 := deNT h4) | (replace h4 := deNN h4) | (replace h4 := bnT h4) | (replace h4 := bnF h4) | skip
            refine CW.region ?_
            refine RL.y rfl (y_mov (by conv => lhs; whnf)) ?_
            refine RL.y rfl (y_mov (v := .int _ _) rfl) ?_
            refine RL.app1i rfl rfl sT29 (by omega) (ho6.ext hE7) (by omega) hE67.size rfl (fun _ => rfl) (fun u v8 w8 ho8 hg8 hn8 => ?_)
            refine RL.y rfl (y_asg (by conv => lhs; whnf)) ?_
            refine RL.nil ?_
            refine Fin.blockNormal ?_
            refine Fin.next ?_
            refine CW.region ?_
            refine RL.y rfl (y_add rfl rfl (IntWalk.i64_in _ (by omega))) ?_
            refine RL.y rfl (y_mov (v := .int _ _) rfl) ?_
            refine RL.nil ?_
            refine Fin.le ?_
            exact ⟨(10 * q.dp).toNat - (k + 1), by omega, k + 1, v8, rfl, by omega, ⟨rfl, rfl, rfl, rfl, rfl, rfl, trivial⟩, by rw [frL_yes h4]; exact ho8, hE67.grown hg8 (fun b hb => (ho6.lt b hb).1)⟩
          · with_reducible first | (replace h4 := deNF h4) | (replace h4 := of_decide_eq_true h4) | (replace h4 := of_decide_eq_false h4) | (replace h4 := deNT h4) | (replace h4 := deNN h4) | (replace h4 := bnT h4) | (replace h4 := bnF h4) | skip
            refine CW.skip ?_
            refine Fin.blockNormal ?_
            refine Fin.next ?_
            refine CW.region ?_
            refine RL.y rfl (y_add rfl rfl (IntWalk.i64_in _ (by omega))) ?_
            refine RL.y rfl (y_mov (v := .int _ _) rfl) ?_
            refine RL.nil ?_
            refine Fin.le ?_
            exact ⟨(10 * q.dp).toNat - (k + 1), by omega, k + 1, vo, rfl, by omega, ⟨rfl, rfl, rfl, rfl, rfl, rfl, trivial⟩, by rw [frL_no h4]; exact ho6.ext hE7, hE67⟩
        · with_reducible first | (replace h3 := deNF h3) | (replace h3 := of_decide_eq_true h3) | (replace h3 := of_decide_eq_false h3) | (replace h3 := deNT h3) | (replace h3 := deNN h3) | (replace h3 := bnT h3) | (replace h3 := bnF h3) | skip
          obtain rfl : k = (10 * q.dp).toNat := by omega
          refine CW.exit ?_
          refine Fin.thenExit ?_
          refine Fin.thenExit ?_
          refine Fin.blockHit ?_
          refine Fin.next ?_
          refine CW.seq ?_
          refine CW.region ?_
          refine RL.y rfl (y_mov (by conv => lhs; whnf)) ?_
          refine RL.y rfl (y_asg (by conv => lhs; whnf)) ?_
          refine RL.y rfl (y_asg rfl) ?_
          refine RL.nil ?_
          refine Fin.next ?_
          refine CW.ret ?_
          refine Fin.ret2 rfl (by conv => lhs; whnf) (by conv => lhs; whnf) ?_
          exact ⟨_, rfl, _, by rw [(fr_in h1 h2).1], by rw [(fr_in h1 h2).2, e1, hfar]; exact ho6.mono hE04.size, hE06⟩
end Go.Proofs.Ytaepdknmagaokaa
