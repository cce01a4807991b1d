/-
  WornLock.
-/
import Derived.Test.YtaepdknmagaokaaFWea4
namespace Go.Proofs.Ytaepdknmagaokaa
open B Go.RowKit

theorem mod_grown_new {B U : Nat} {a b c : World} {row : Option Nat} (h : Mod B U a b) (hg : b.grownBy c row) (hr : ∀ k, row = some k → a.heap.size ≤ k) : Mod B U a c :=
  ⟨hg.os.trans h.os, hg.tape.trans h.tape, hg.output.trans h.output, Nat.le_trans h.size hg.size, fun k hk hn => (hg.block k (Nat.lt_of_lt_of_le hk h.size) (fun e => by have := hr k e.symm; omega)).trans (h.block k hk hn)⟩
theorem wnS_yes {q : Mk} {set : List Int} {n k : Nat} {t : Int} (h : 0 < cnt set (k : Int) n t) : wnS q set n t (k + 1) = wnS q set n t k ++ [(k : Int)] := idxs_yes (by simpa using h)
theorem wnS_no {q : Mk} {set : List Int} {n k : Nat} {t : Int} (h : ¬ 0 < cnt set (k : Int) n t) : wnS q set n t (k + 1) = wnS q set n t k := idxs_no (by simpa using h)
theorem wnL_snoc {q : Mk} {ss : List (List Int)} {n i : Nat} {t : Int} (h : i < ss.length) : wnL q (ss.take (i + 1)) n t = wnL q (ss.take i) n t ++ [wnS q ss[i] n t q.dp.toNat] := by
  unfold wnL
  rw [List.take_succ_eq_append_getElem h, List.map_append]; rfl
theorem wnL_len {q : Mk} {ss : List (List Int)} {n : Nat} {t : Int} : (wnL q ss n t).length = ss.length := by simp [wnL]

theorem l08Worn_any {w : World} {q : Mk} {v : Value} {ss : List (List Int)} {a t : Int} (hv : RdL w v ss) (hl : lck q ss) (ha : 0 ≤ a ∧ a ≤ 19) :
    Does Try.prog 60 #[mkA q, v, .int .i64 a, .int .i64 t] w (fun v' w' => OwL w' w.heap.size w'.heap.size v' (wnL q ss (a + 1).toNat t) ∧ Ext w w') := by
  obtain ⟨vl, rfl, vs, hr⟩ := hv
  obtain ⟨g1, g2, g3, g4, g5⟩ := lck_ok hl
  refine enter Try.func60 rfl 53 Try.ntmps60 rfl (by kernel_rfl) ?_
  refine CW.seq ?_
  refine CW.region ?_
  refine RL.box (cs := [.int .i64 q.ch, .int .i64 q.dp, .int .i64 q.st, .int .i64 q.sm, .int .i64 q.le]) rfl rfl rfl (fun w1 hV hE1 => ?_)
  refine RL.box (cs := [vl]) rfl rfl rfl (fun w2 hW hE2 => ?_)
  refine RL.alloc rfl ze28 (fun w3 hX hE3 => ?_)
  have hl1 := hV.lt
  have hl2 := hW.lt
  have hl3 := hX.lt
  have hE03 := (hE1.trans hE2).trans hE3
  refine RL.nil ?_
  refine Fin.next ?_
  refine CW.seq ?_
  refine CW.region ?_
  refine RL.lit0 rfl sT26 (fun vo w4 ho4 hE4 hb4 => ?_)
  refine RL.y rfl (y_asg (by conv => lhs; whnf)) ?_
  refine RL.nil ?_
  refine Fin.next ?_
  refine CW.seq ?_
  refine CW.seq ?_
  refine CW.region ?_
  refine RL.y rfl (y_asg rfl) ?_
  refine RL.nil ?_
  refine Fin.next ?_
  refine CW.block ?_
  refine CW.loop (fun m E w' => ∃ (i : Nat) (vo : Value) (cv : List Value) (U : Nat), m = ss.length - i ∧ i ≤ ss.length ∧ agrees E [(4, .pointer (some ⟨w.heap.size, 0, none⟩)), (5, .pointer (some ⟨w1.heap.size, 0, none⟩)), (8, .pointer (some ⟨w2.heap.size, 0, none⟩)), (2, .int .i64 a), (3, .int .i64 t), (9, vo), (10, .int .i64 (i : Int))] ∧ OwC ints 2 29 w' w3.heap.size U vo cv (wnL q (ss.take i) (a + 1).toNat t) ∧ Ext w3 w') _ (⟨0, vo, [], _, rfl, Nat.zero_le _, ⟨rfl, rfl, rfl, rfl, rfl, rfl, rfl, trivial⟩, OwC.nil ho4, hE4⟩) ?_
  · rintro m E w5 ⟨i, vo, cv, U, rfl, hi, hag, ho5, hE5⟩
    refine CW.re _ hag rfl ?_
    have hE05 := hE03.trans hE5
    have hdl := ho5.2.1
    rw [wnL_len, List.length_take] at hdl
    refine CW.seq ?_
    refine CW.seq ?_
    refine CW.region ?_
    refine RL.y rfl (y_mov (v := .int _ _) rfl) ?_
    refine RL.y rfl (y_fa fa28_0 rfl rfl) ?_
    refine RL.y rfl (y_loadv sc26 (eqw ((hW.ext hE3).ext hE5)) rfl rfl) ?_
    refine RL.y rfl (y_len sT26 hr.1 hr.2.1 rfl) ?_
    refine RL.y rfl (y_lt rfl rfl) ?_
    refine RL.nil ?_
    refine Fin.next ?_
    refine CW.cond rfl rfl (fun hci => ?_) (fun hci => ?_)
    · with_reducible first | (replace hci := deNF hci) | (replace hci := of_decide_eq_true hci) | (replace hci := of_decide_eq_false hci) | (replace hci := deNT hci) | (replace hci := deNN hci) | (replace hci := bnT hci) | (replace hci := bnF hci) | skip
      have hlti : i < ss.length := by omega
      have hrs := g4 _ (List.getElem_mem hlti)
      have hU := ho5.1.2.1
      refine CW.skip ?_
      refine Fin.next ?_
      refine CW.seq ?_
      refine CW.block ?_
      refine CW.seq ?_
      refine CW.region ?_
      refine RL.lit0 rfl sT29 (fun vi w6 ho6 hE6 hb6 => ?_)
      refine RL.y rfl (y_asg (by conv => lhs; whnf)) ?_
      refine RL.nil ?_
      refine Fin.next ?_
      refine CW.seq ?_
      refine CW.seq ?_
      refine CW.region ?_
      refine RL.y rfl (y_asg rfl) ?_
      refine RL.nil ?_
      refine Fin.next ?_
      refine CW.block ?_
      refine CW.loop (fun m E w' => ∃ (k : Nat) (vi : Value), m = q.dp.toNat - k ∧ k ≤ q.dp.toNat ∧ agrees E [(4, .pointer (some ⟨w.heap.size, 0, none⟩)), (5, .pointer (some ⟨w1.heap.size, 0, none⟩)), (8, .pointer (some ⟨w2.heap.size, 0, none⟩)), (2, .int .i64 a), (3, .int .i64 t), (9, vo), (10, .int .i64 (i : Int)), (11, vi), (12, .int .i64 (k : Int))] ∧ OV w' w5.heap.size 2 vi (ints (wnS q ss[i] (a + 1).toNat t k)) ∧ Ext w5 w') _ (⟨0, vi, rfl, Nat.zero_le _, ⟨rfl, rfl, rfl, rfl, rfl, rfl, rfl, rfl, rfl, trivial⟩, ho6, hE6⟩) ?_
      · rintro m E w7 ⟨k, vi, rfl, hk, hag, ho7, hE7⟩
        refine CW.re _ hag rfl ?_
        have hE57 := hE5.trans hE7
        have hE07 := hE03.trans hE57
        have hwl : (wnS q ss[i] (a + 1).toNat t k).length ≤ k := idxs_le _ _
        refine CW.seq ?_
        refine CW.seq ?_
        refine CW.region ?_
        refine RL.y rfl (y_mov (v := .int _ _) rfl) ?_
        refine RL.y rfl (y_fa fa25_1 rfl rfl) ?_
        refine RL.y rfl (y_loadv sc2 (eqw (((hV.ext hE2).ext hE3).ext hE57)) rfl rfl) ?_
        refine RL.y rfl (y_lt rfl rfl) ?_
        refine RL.nil ?_
        refine Fin.next ?_
        refine CW.cond rfl rfl (fun hck => ?_) (fun hck => ?_)
        · with_reducible first | (replace hck := deNF hck) | (replace hck := of_decide_eq_true hck) | (replace hck := of_decide_eq_false hck) | (replace hck := deNT hck) | (replace hck := deNN hck) | (replace hck := bnT hck) | (replace hck := bnF hck) | skip
          refine CW.skip ?_
          refine Fin.next ?_
          refine CW.seq ?_
          refine CW.block ?_
          refine CW.seq ?_
          refine CW.region ?_
          refine RL.y rfl (y_fa fa28_0 rfl rfl) ?_
          refine RL.y rfl (y_loadv sc26 (eqw ((hW.ext hE3).ext hE57)) rfl rfl) ?_
          refine RL.y rfl (y_mov (v := .int _ _) rfl) ?_
          refine RL.y rfl (y_ixa sT26 (eqw (hr.1.ext hE07)) (k := i) (hr.lt hlti) rfl rfl) ?_
          refine RL.y rfl (y_load sc29 (eqw (hr.1.ext hE07)) (hr.at hlti) rfl) ?_
          refine RL.y rfl (y_mov (v := .int _ _) rfl) ?_
          refine RL.y rfl (y_mov (v := .int _ _) rfl) ?_
          refine RL.y rfl (y_mov (v := .int _ _) rfl) ?_
          refine RL.call rfl (l08Cut_any ((hr.row hlti).ext hE07) hrs (by omega) ha) ?_
          rintro r w8 ⟨rfl, rfl⟩
          refine RL.y rfl (y_mov (by conv => lhs; whnf)) ?_
          refine RL.y rfl (y_ext0 rfl) ?_
          refine RL.y rfl (y_ext1 rfl) ?_
          refine RL.y rfl (y_asg (v := .bool _) rfl) ?_
          refine RL.y rfl (y_asg (v := .bool _) rfl) ?_
          refine RL.nil ?_
          refine Fin.next ?_
          refine CW.seq ?_
          refine CW.region ?_
          refine RL.y rfl (y_mov (v := .bool _) rfl) ?_
          refine RL.nil ?_
          refine Fin.next ?_
          refine CW.cond rfl rfl (fun hc => ?_) (fun hc => ?_)
          · with_reducible first | (replace hc := deNF hc) | (replace hc := of_decide_eq_true hc) | (replace hc := of_decide_eq_false hc) | (replace hc := deNT hc) | (replace hc := deNN hc) | (replace hc := bnT hc) | (replace hc := bnF hc) | skip
            refine CW.region ?_
            refine RL.y rfl (y_mov (by conv => lhs; whnf)) ?_
            refine RL.y rfl (y_mov (v := .int _ _) rfl) ?_
            refine RL.app1i rfl rfl sT29 (by omega) ho7 (by omega) hE7.size rfl (fun _ => rfl) (fun u v9 w9 ho9 hg9 hn9 => ?_)
            refine RL.y rfl (y_asg (by conv => lhs; whnf)) ?_
            refine RL.nil ?_
            refine Fin.blockNormal ?_
            refine Fin.next ?_
            refine CW.region ?_
            refine RL.y rfl (y_mov (v := .int _ _) rfl) ?_
            refine RL.y rfl (y_add rfl rfl (IntWalk.i64_in _ (by omega))) ?_
            refine RL.y rfl (y_asg (v := .int _ _) rfl) ?_
            refine RL.nil ?_
            refine Fin.le ?_
            exact ⟨q.dp.toNat - (k + 1), by omega, k + 1, v9, rfl, by omega, ⟨rfl, rfl, rfl, rfl, rfl, rfl, rfl, rfl, rfl, trivial⟩, by rw [wnS_yes hc]; exact ho9, hE7.grown hg9 (fun b hb => (ho7.lt b hb).1)⟩
          · with_reducible first | (replace hc := deNF hc) | (replace hc := of_decide_eq_true hc) | (replace hc := of_decide_eq_false hc) | (replace hc := deNT hc) | (replace hc := deNN hc) | (replace hc := bnT hc) | (replace hc := bnF hc) | skip
            refine CW.skip ?_
            refine Fin.blockNormal ?_
            refine Fin.next ?_
            refine CW.region ?_
            refine RL.y rfl (y_mov (v := .int _ _) rfl) ?_
            refine RL.y rfl (y_add rfl rfl (IntWalk.i64_in _ (by omega))) ?_
            refine RL.y rfl (y_asg (v := .int _ _) rfl) ?_
            refine RL.nil ?_
            refine Fin.le ?_
            exact ⟨q.dp.toNat - (k + 1), by omega, k + 1, vi, rfl, by omega, ⟨rfl, rfl, rfl, rfl, rfl, rfl, rfl, rfl, rfl, trivial⟩, by rw [wnS_no hc]; exact ho7, hE7⟩
        · with_reducible first | (replace hck := deNF hck) | (replace hck := of_decide_eq_true hck) | (replace hck := of_decide_eq_false hck) | (replace hck := deNT hck) | (replace hck := deNN hck) | (replace hck := bnT hck) | (replace hck := bnF hck) | skip
          obtain rfl : k = q.dp.toNat := by omega
          have ho57 := ho5.ext hE7
          refine CW.exit ?_
          refine Fin.thenExit ?_
          refine Fin.thenExit ?_
          refine Fin.blockHit ?_
          refine Fin.next ?_
          refine CW.region ?_
          refine RL.y rfl (y_mov (by conv => lhs; whnf)) ?_
          refine RL.y rfl (y_mov (by conv => lhs; whnf)) ?_
          refine RL.app1 rfl rfl sT26 (by omega) ho57.1.ov (by omega) hE57.size rfl (slice_one ho7.sv) (fun _ => rfl) (fun u v8 w8 ho8 hg8 hn8 => ?_)
          have hp := ho57.push (ho7.mono hE5.size) (fun b hb => by have := (ho7.lt b hb).1; omega) ho8 hg8 hn8
          rw [← wnL_snoc hlti] at hp
          refine RL.y rfl (y_asg (by conv => lhs; whnf)) ?_
          refine RL.nil ?_
          refine Fin.blockNormal ?_
          refine Fin.next ?_
          refine CW.region ?_
          refine RL.y rfl (y_mov (v := .int _ _) rfl) ?_
          refine RL.y rfl (y_add rfl rfl (IntWalk.i64_in _ (by omega))) ?_
          refine RL.y rfl (y_asg (v := .int _ _) rfl) ?_
          refine RL.nil ?_
          refine Fin.le ?_
          exact ⟨ss.length - (i + 1), by omega, i + 1, v8, _, _, rfl, hlti, ⟨rfl, rfl, rfl, rfl, rfl, rfl, rfl, trivial⟩, hp, hE57.grown hg8 (fun b hb => (ho57.1.lt b hb).1)⟩
    · with_reducible first | (replace hci := deNF hci) | (replace hci := of_decide_eq_true hci) | (replace hci := of_decide_eq_false hci) | (replace hci := deNT hci) | (replace hci := deNN hci) | (replace hci := bnT hci) | (replace hci := bnF hci) | skip
      obtain rfl : i = ss.length := by omega
      rw [List.take_length] at ho5
      refine CW.exit ?_
      refine Fin.thenExit ?_
      refine Fin.thenExit ?_
      refine Fin.blockHit ?_
      refine Fin.next ?_
      refine CW.seq ?_
      refine CW.region ?_
      refine RL.y rfl (y_mov (by conv => lhs; whnf)) ?_
      refine RL.y rfl (y_build bd28 rfl (fill_one (slice_one ho5.1.sv) rfl rfl fill_nil)) ?_
      refine RL.stores ag28 ((hX.ext hE5)) rfl rfl rfl rfl ((show ([vo] : List Value).all (·.oneCell') = true by simp only [List.all_cons, List.all_nil, Bool.and_true]; exact slice_one ho5.1.sv)) (fun w6 hX6 hg6 => ?_)
      replace hX6 : VR w6 w2.heap.size [vo] := hX6
      have hs6 := hg6.size
      have hs5 := hE5.size
      have hU := ho5.1.2.1
      have hM6 : Mod w2.heap.size (w2.heap.size + 1) w5 w6 := grown_mod hg6 (fun k hk => by simp only [Option.some.injEq] at hk; omega)
      have ho6 : OwSS w6 w3.heap.size U vo _ := ⟨cv, ho5.mod hM6 (by omega)⟩
      refine RL.nil ?_
      refine Fin.next ?_
      refine CW.ret ?_
      refine Fin.retc rfl ag28 rfl rfl (hX6) ?_
      exact ⟨_, rfl, ⟨vo, rfl, OwN.wide ho6 (by omega) (by omega) (Nat.le_refl _)⟩, hE05.then_mod hM6 (by omega)⟩

theorem wn_bad {q : Mk} {ss : List (List Int)} {a t : Int} (h : loC q ss a t ≠ 0) : wnV q ss a t = [] := by unfold wnV; rw [if_neg h]
theorem wn_ok {q : Mk} {ss : List (List Int)} {a t : Int} (h : loC q ss a t = 0) : wnV q ss a t = wnL q ss (a + 1).toNat t := by unfold wnV; rw [if_pos h]
theorem OwL.nil (w : World) (B : Nat) (h : B ≤ w.heap.size) : OwL w B w.heap.size (.agg #[.slice none 0 0]) [] := ⟨_, rfl, OwN.wide (OwN.nil w w.heap.size) h (Nat.le_refl _) (Nat.le_refl _)⟩

theorem specWornLock_any {w : World} {q : Mk} {v : Value} {ss : List (List Int)} {a t : Int} (hv : RdL w v ss) :
    Does Try.prog 32 #[mkA q, v, .int .i64 a, .int .i64 t] w (fun r w' => ∃ v1, r = .tuple #[v1, .int .i64 (loC q ss a t)] ∧ OwL w' w.heap.size w'.heap.size v1 (wnV q ss a t) ∧ Ext w w') := by
  obtain ⟨vl, rfl, vs, hr⟩ := hv
  refine enter Try.func32 rfl 25 Try.ntmps32 rfl (by kernel_rfl) ?_
  refine CW.seq ?_
  refine CW.region ?_
  refine RL.box (cs := [.int .i64 q.ch, .int .i64 q.dp, .int .i64 q.st, .int .i64 q.sm, .int .i64 q.le]) rfl rfl rfl (fun w1 hV hE1 => ?_)
  refine RL.box (cs := [vl]) rfl rfl rfl (fun w2 hW hE2 => ?_)
  refine RL.alloc rfl ze28 (fun w3 hX hE3 => ?_)
  have hl1 := hV.lt
  have hl2 := hW.lt
  have hl3 := hX.lt
  have hE03 := (hE1.trans hE2).trans hE3
  refine RL.y rfl (y_asg rfl) ?_
  refine RL.nil ?_
  refine Fin.next ?_
  refine CW.seq ?_
  refine CW.region ?_
  refine RL.y rfl (y_loads ag25 rfl (eqw ((hV.ext hE2).ext hE3)) rfl) ?_
  refine RL.y rfl (y_loads ag28 rfl (eqw (hW.ext hE3)) rfl) ?_
  refine RL.y rfl (y_mov (v := .int _ _) rfl) ?_
  refine RL.y rfl (y_mov (v := .int _ _) rfl) ?_
  refine RL.call rfl (l08Lock_any ⟨vl, rfl, vs, hr.ext hE03⟩) ?_
  rintro r w4 ⟨rfl, hE4⟩
  have hE04 := hE03.trans hE4
  have hs4 := hE4.size
  refine RL.y rfl (y_asg (v := .int _ _) rfl) ?_
  refine RL.nil ?_
  refine Fin.next ?_
  refine CW.seq ?_
  refine CW.seq ?_
  refine CW.region ?_
  refine RL.y rfl (y_mov (v := .int _ _) rfl) ?_
  refine RL.y rfl (y_ne rfl rfl) ?_
  refine RL.nil ?_
  refine Fin.next ?_
  refine CW.cond rfl rfl (fun h1 => ?_) (fun h1 => ?_)
  · with_reducible first | (replace h1 := deNF h1) | (replace h1 := of_decide_eq_true h1) | (replace h1 := of_decide_eq_false h1) | (replace h1 := deNT h1) | (replace h1 := deNN h1) | (replace h1 := bnT h1) | (replace h1 := bnF h1) | skip
    refine CW.seq ?_
    refine CW.region ?_
    refine RL.y rfl (y_build bd28 rfl fill_nil) ?_
    refine RL.y rfl (y_mov (v := .int _ _) rfl) ?_
    refine RL.stores ag28 ((hX.ext hE4)) rfl rfl rfl rfl (rfl) (fun w5 hX5 hg5 => ?_)
    replace hX5 : VR w5 w2.heap.size [.slice none 0 0] := hX5
    have hs5 := hg5.size
    have hM5 : Mod w2.heap.size (w2.heap.size + 1) w4 w5 := grown_mod hg5 (fun k hk => by simp only [Option.some.injEq] at hk; omega)
    refine RL.y rfl (y_asg (v := .int _ _) rfl) ?_
    refine RL.nil ?_
    refine Fin.next ?_
    refine CW.ret ?_
    refine Fin.thenRet ?_
    refine Fin.retct rfl ag28 rfl rfl (hX5) (by conv => lhs; whnf) ?_
    exact ⟨_, rfl, _, rfl, by rw [wn_bad h1]; exact OwL.nil _ _ (by omega), hE04.then_mod hM5 (by omega)⟩
  · with_reducible first | (replace h1 := deNF h1) | (replace h1 := of_decide_eq_true h1) | (replace h1 := of_decide_eq_false h1) | (replace h1 := deNT h1) | (replace h1 := deNN h1) | (replace h1 := bnT h1) | (replace h1 := bnF h1) | skip
    obtain ⟨hl, hn⟩ := loC_zero.1 h1
    refine CW.skip ?_
    refine Fin.next ?_
    refine CW.seq ?_
    refine CW.region ?_
    refine RL.y rfl (y_loads ag25 rfl (eqw (((hV.ext hE2).ext hE3).ext hE4)) rfl) ?_
    refine RL.y rfl (y_loads ag28 rfl (eqw ((hW.ext hE3).ext hE4)) rfl) ?_
    refine RL.y rfl (y_mov (v := .int _ _) rfl) ?_
    refine RL.y rfl (y_mov (v := .int _ _) rfl) ?_
    refine RL.call rfl (l08Worn_any ⟨vl, rfl, vs, hr.ext hE04⟩ hl hn.1) ?_
    rintro v5 w5 ⟨ho5, hE5⟩
    obtain ⟨vo, rfl, hoo⟩ := id ho5
    refine RL.stores ag28 (((hX.ext hE4).ext hE5)) rfl rfl rfl rfl (ho5.one) (fun w6 hX6 hg6 => ?_)
    replace hX6 : VR w6 w2.heap.size [vo] := hX6
    have hs5 := hE5.size
    have hs6 := hg6.size
    have hM6 : Mod w2.heap.size (w2.heap.size + 1) w5 w6 := grown_mod hg6 (fun k hk => by simp only [Option.some.injEq] at hk; omega)
    have ho6 := hoo.mod hM6 (by omega)
    refine RL.y rfl (y_asg rfl) ?_
    refine RL.nil ?_
    refine Fin.next ?_
    refine CW.ret ?_
    refine Fin.retct rfl ag28 rfl rfl (hX6) (by conv => lhs; whnf) ?_
    exact ⟨_, rfl, _, by rw [h1], by rw [wn_ok h1]; exact ⟨vo, rfl, OwN.wide ho6 (by omega) (by omega) (Nat.le_refl _)⟩, (hE04.trans hE5).then_mod hM6 (by omega)⟩

theorem tot_wnL (q : Mk) (n : Nat) (t : Int) : ∀ ss : List (List Int), tot (wnL q ss n t) ≤ q.dp.toNat * ss.length
  | [] => by simp [wnL, tot]
  | s :: ss => by
    have h1 := tot_wnL q n t ss
    have h2 : (wnS q s n t q.dp.toNat).length ≤ q.dp.toNat := idxs_le _ _
    have h3 : tot (wnL q (s :: ss) n t) = (wnS q s n t q.dp.toNat).length + tot (wnL q ss n t) := by simp [wnL, tot]
    rw [h3, List.length_cons, Nat.mul_succ]; omega
theorem wnV_tot (q : Mk) (ss : List (List Int)) (a t : Int) : tot (wnV q ss a t) ≤ 48 := by
  unfold wnV; split
  · rename_i h
    obtain ⟨hl, _⟩ := loC_zero.1 h
    obtain ⟨g1, g2, g3, _⟩ := lck_ok hl
    have h1 := tot_wnL q (a + 1).toNat t ss
    have h2 : q.dp.toNat * ss.length ≤ 8 * 6 := Nat.mul_le_mul (by omega) (by omega)
    omega
  · simp [tot]

theorem mayFree_any {w : World} {v vl : Value} {a t : Int} (hv : v = .agg #[vl]) :
    Does Try.prog 70 #[v, .int .i64 a, .int .i64 t] w (fun r w' => ∃ b c d : Nat, r = .func (.func 108) #[] [.pointer (some ⟨b, 0, none⟩), .pointer (some ⟨c, 0, none⟩), .pointer (some ⟨d, 0, none⟩)].toArray ∧ (VR w' b [vl] ∧ VR w' c [.int .i64 a] ∧ VR w' d [.int .i64 t]) ∧ Ext w w') := by
  subst hv
  refine enter Try.func70 rfl 8 Try.ntmps70 rfl (by kernel_rfl) ?_
  refine CW.seq ?_
  refine CW.region ?_
  refine RL.box (cs := [vl]) rfl rfl rfl (fun w1 hV hE1 => ?_)
  refine RL.box (cs := [.int .i64 a]) rfl rfl rfl (fun w2 hW hE2 => ?_)
  refine RL.box (cs := [.int .i64 t]) rfl rfl rfl (fun w3 hX hE3 => ?_)
  refine RL.y rfl (y_asg rfl) ?_
  refine RL.nil ?_
  refine Fin.next ?_
  refine CW.seq ?_
  refine CW.region ?_
  refine RL.y rfl (y_fnl rfl) ?_
  refine RL.y rfl (y_asg (by conv => lhs; whnf)) ?_
  refine RL.nil ?_
  refine Fin.next ?_
  refine CW.ret ?_
  refine Fin.ret1 rfl (by conv => lhs; whnf) ?_
  exact ⟨_, rfl, _, _, _, rfl, ⟨(hV.ext hE2).ext hE3, hW.ext hE3, hX⟩, (hE1.trans hE2).trans hE3⟩

theorem mayFree1_any {w : World} {b c d i : Nat} {vl : Value} {vs : List Value} {ss : List (List Int)} {x a t : Int} (hV : VR w b [vl]) (hW : VR w c [.int .i64 a]) (hX : VR w d [.int .i64 t]) (hr : RdC ints w vl vs ss) (hi : i < ss.length) (hs : sm8 ss[i]) (hx : 0 ≤ x ∧ x ≤ 8) (ha : 0 ≤ a ∧ a ≤ 19) :
    Does Try.prog 108 #[.int .i64 (i : Int), .int .i64 x, .pointer (some ⟨b, 0, none⟩), .pointer (some ⟨c, 0, none⟩), .pointer (some ⟨d, 0, none⟩)] w (fun r w' => r = .bool (decide (0 < cnt ss[i] x (a + 1).toNat t)) ∧ Ext w w') := by
  refine enter Try.func108 rfl 18 Try.ntmps108 rfl (by kernel_rfl) ?_
  refine CW.seq ?_
  refine CW.region ?_
  refine RL.y rfl (y_asg rfl) ?_
  refine RL.nil ?_
  refine Fin.next ?_
  refine CW.seq ?_
  refine CW.quietE mixed (by kernel_rfl) ?_
  refine QL.y rfl (y_fa fa28_0 rfl rfl) ?_
  refine QL.y rfl (y_loadv sc26 (fun _ hC => (hV).ext hC) rfl rfl) ?_
  refine QL.y rfl (y_mov (v := .int _ _) rfl) ?_
  refine QL.y rfl (y_ixa sT26 (fun _ hC => (hr.1).ext hC) (k := i) (hr.lt hi) rfl rfl) ?_
  refine QL.y rfl (y_load sc29 (fun _ hC => (hr.1).ext hC) (hr.at hi) rfl) ?_
  refine QL.y rfl (y_mov (v := .int _ _) rfl) ?_
  refine QL.y rfl (y_loadv sc2 (fun _ hC => (hW).ext hC) rfl rfl) ?_
  refine QL.y rfl (y_loadv sc2 (fun _ hC => (hX).ext hC) rfl rfl) ?_
  refine QL.call rfl (fun _ hC => qc hC (freePlaces_any ((hr.row hi).ext hC) hs hx ha)) ?_
  refine QL.y rfl (y_gt rfl rfl) ?_
  refine QL.y rfl (y_asg (v := .bool _) rfl) ?_
  refine QL.nil (fun w2 hE2 => ?_)
  refine Fin.next ?_
  refine CW.ret ?_
  refine Fin.ret1 rfl (by conv => lhs; whnf) ?_
  exact ⟨_, rfl, bD ⟨fun h => by omega, fun h => by omega⟩, hE2⟩

theorem implWornLock_any {w : World} {q : Mk} {v : Value} {ss : List (List Int)} {a t : Int} (hv : RdL w v ss) :
    Does Try.prog 33 #[mkA q, v, .int .i64 a, .int .i64 t] w (fun r w' => ∃ v1, r = .tuple #[v1, .int .i64 (loC q ss a t)] ∧ OwL w' w.heap.size w'.heap.size v1 (wnV q ss a t) ∧ Ext w w') := by
  obtain ⟨vl, rfl, vs, hr⟩ := hv
  refine enter Try.func33 rfl 60 Try.ntmps33 rfl (by kernel_rfl) ?_
  refine CW.seq ?_
  refine CW.region ?_
  refine RL.box (cs := [.int .i64 q.ch, .int .i64 q.dp, .int .i64 q.st, .int .i64 q.sm, .int .i64 q.le]) rfl rfl rfl (fun w1 hV hE1 => ?_)
  refine RL.box (cs := [vl]) rfl rfl rfl (fun w2 hW hE2 => ?_)
  refine RL.alloc rfl ze28 (fun w3 hX hE3 => ?_)
  have hl1 := hV.lt
  have hl2 := hW.lt
  have hl3 := hX.lt
  have hE03 := (hE1.trans hE2).trans hE3
  refine RL.y rfl (y_asg rfl) ?_
  refine RL.nil ?_
  refine Fin.next ?_
  refine CW.seq ?_
  refine CW.seq ?_
  refine CW.region ?_
  refine RL.y rfl (y_loads ag25 rfl (eqw ((hV.ext hE2).ext hE3)) rfl) ?_
  refine RL.y rfl (y_loads ag28 rfl (eqw (hW.ext hE3)) rfl) ?_
  refine RL.litL rfl lT66 (slice_one hr.1) rfl (fun ul wl hL hEl => ?_)
  have hE0l := hE03.trans hEl
  refine RL.y rfl (y_mov (v := .int _ _) rfl) ?_
  refine RL.y rfl (y_mov (v := .int _ _) rfl) ?_
  refine RL.call rfl (wearCode_any (RdLs.one hL ⟨vs, hr.ext hE0l⟩) rdS_nil) ?_
  rintro r w4 ⟨rfl, hE4⟩
  rw [wcC_lock]
  have hE04 := hE0l.trans hE4
  have hs3 := hEl.size
  have hs4 := hE4.size
  refine RL.y rfl (y_asg (v := .int _ _) rfl) ?_
  refine RL.nil ?_
  refine Fin.next ?_
  refine CW.seq ?_
  refine CW.region ?_
  refine RL.y rfl (y_mov (v := .int _ _) rfl) ?_
  refine RL.y rfl (y_ne rfl rfl) ?_
  refine RL.nil ?_
  refine Fin.next ?_
  refine CW.cond rfl rfl (fun h1 => ?_) (fun h1 => ?_)
  · with_reducible first | (replace h1 := deNF h1) | (replace h1 := of_decide_eq_true h1) | (replace h1 := of_decide_eq_false h1) | (replace h1 := deNT h1) | (replace h1 := deNN h1) | (replace h1 := bnT h1) | (replace h1 := bnF h1) | skip
    refine CW.seq ?_
    refine CW.region ?_
    refine RL.y rfl (y_build bd28 rfl fill_nil) ?_
    refine RL.y rfl (y_mov (v := .int _ _) rfl) ?_
    refine RL.stores ag28 (((hX.ext hEl).ext hE4)) rfl rfl rfl rfl (rfl) (fun w5 hX5 hg5 => ?_)
    replace hX5 : VR w5 w2.heap.size [.slice none 0 0] := hX5
    have hs5 := hg5.size
    have hM5 : Mod w2.heap.size (w2.heap.size + 1) w4 w5 := grown_mod hg5 (fun k hk => by simp only [Option.some.injEq] at hk; omega)
    refine RL.y rfl (y_asg (v := .int _ _) rfl) ?_
    refine RL.nil ?_
    refine Fin.next ?_
    refine CW.ret ?_
    refine Fin.thenRet ?_
    refine Fin.retct rfl ag28 rfl rfl (hX5) (by conv => lhs; whnf) ?_
    exact ⟨_, rfl, _, rfl, by rw [wn_bad h1]; exact OwL.nil _ _ (by omega), hE04.then_mod hM5 (by omega)⟩
  · with_reducible first | (replace h1 := deNF h1) | (replace h1 := of_decide_eq_true h1) | (replace h1 := of_decide_eq_false h1) | (replace h1 := deNT h1) | (replace h1 := deNN h1) | (replace h1 := bnT h1) | (replace h1 := bnF h1) | skip
    obtain ⟨hl, hn⟩ := loC_zero.1 h1
    obtain ⟨g1, g2, g3, g4, g5⟩ := lck_ok hl
    have hV4 := (((hV.ext hE2).ext hE3).ext hEl).ext hE4
    have hW4 := ((hW.ext hE3).ext hEl).ext hE4
    have hX4 := (hX.ext hEl).ext hE4
    refine CW.skip ?_
    refine Fin.next ?_
    refine CW.seq ?_
    refine CW.region ?_
    refine RL.y rfl (y_loads ag28 rfl (eqw (hW4)) rfl) ?_
    refine RL.y rfl (y_mov (v := .int _ _) rfl) ?_
    refine RL.y rfl (y_mov (v := .int _ _) rfl) ?_
    refine RL.call rfl (mayFree_any rfl) ?_
    rintro r w5 ⟨b, c, d, rfl, ⟨hB, hC', hD⟩, hE5⟩
    refine RL.y rfl (y_build bd28 rfl fill_nil) ?_
    refine RL.alloc rfl ze28 (fun w6 hO hE6 => ?_)
    refine RL.y rfl (y_asg (by conv => lhs; whnf)) ?_
    refine RL.stores ag28 (hO) rfl rfl rfl rfl (rfl) (fun w7 hO7 hg7 => ?_)
    replace hO7 : VR w7 w5.heap.size [.slice none 0 0] := hO7
    have hb5 := hB.lt
    have hc5 := hC'.lt
    have hd5 := hD.lt
    have hl6 := hO.lt
    have hs5 := hE5.size
    have hs7 := hg7.size
    have hE57 : Ext w5 w7 := hE6.grown hg7 (fun b hb => by simp only [Option.some.injEq] at hb; omega)
    have hE07 := (hE04.trans hE5).trans hE57
    have hr7 := hr.ext hE07
    refine RL.nil ?_
    refine Fin.next ?_
    refine CW.seq ?_
    refine CW.seq ?_
    refine CW.region ?_
    refine RL.y rfl (y_fa fa28_0 rfl rfl) ?_
    refine RL.y rfl (y_loadv sc26 (eqw ((hW4.ext hE5).ext hE57)) rfl rfl) ?_
    refine RL.y rfl (y_len sT26 hr.1 hr.2.1 rfl) ?_
    refine RL.y rfl (y_mov rfl) ?_
    refine RL.nil ?_
    refine Fin.next ?_
    refine CW.block ?_
    refine CW.loop (fun m E w' => ∃ (i : Nat) (vo : Value) (cv : List Value) (U : Nat), m = ss.length - i ∧ i ≤ ss.length ∧ agrees E [(4, .pointer (some ⟨w.heap.size, 0, none⟩)), (5, .pointer (some ⟨w1.heap.size, 0, none⟩)), (8, .pointer (some ⟨w2.heap.size, 0, none⟩)), (11, .func (.func 108) #[] [.pointer (some ⟨b, 0, none⟩), .pointer (some ⟨c, 0, none⟩), .pointer (some ⟨d, 0, none⟩)].toArray), (12, .pointer (some ⟨w5.heap.size, 0, none⟩)), (33, .int .i64 ss.length), (34, .int .i64 (i : Int))] ∧ VR w' w5.heap.size [vo] ∧ OwC ints 2 29 w' w7.heap.size U vo cv (wnL q (ss.take i) (a + 1).toNat t) ∧ Mod w5.heap.size (w5.heap.size + 1) w7 w') _ (⟨0, .slice none 0 0, [], _, rfl, Nat.zero_le _, ⟨rfl, rfl, rfl, rfl, rfl, rfl, rfl, trivial⟩, hO7, OwC.nil (OV.nil _ _ _), Mod.refl _ _ _⟩) ?_
    · rintro m E w8 ⟨i, vo, cv, U, rfl, hi, hag, hO8, ho8, hM8⟩
      refine CW.re _ hag rfl ?_
      have hdl := ho8.2.1
      rw [wnL_len, List.length_take] at hdl
      have hs8 := hM8.size
      refine CW.seq ?_
      refine CW.region ?_
      refine RL.y rfl (y_lt rfl rfl) ?_
      refine RL.nil ?_
      refine Fin.next ?_
      refine CW.seq ?_
      refine CW.cond rfl rfl (fun hci => ?_) (fun hci => ?_)
      · with_reducible first | (replace hci := deNF hci) | (replace hci := of_decide_eq_true hci) | (replace hci := of_decide_eq_false hci) | (replace hci := deNT hci) | (replace hci := deNN hci) | (replace hci := bnT hci) | (replace hci := bnF hci) | skip
        have hlti : i < ss.length := by omega
        have hrs := g4 _ (List.getElem_mem hlti)
        have hU := ho8.1.2.1
        refine CW.skip ?_
        refine Fin.next ?_
        refine CW.seq ?_
        refine CW.block ?_
        refine CW.seq ?_
        refine CW.region ?_
        refine RL.y rfl (y_mov (v := .int _ _) rfl) ?_
        refine RL.y rfl (y_asg (v := .int _ _) rfl) ?_
        refine RL.nil ?_
        refine Fin.next ?_
        refine CW.seq ?_
        refine CW.region ?_
        refine RL.lit0 rfl sT29 (fun vi w9 hi9 hE9 hb9 => ?_)
        refine RL.y rfl (y_asg (by conv => lhs; whnf)) ?_
        refine RL.nil ?_
        refine Fin.next ?_
        refine CW.seq ?_
        refine CW.seq ?_
        refine CW.region ?_
        refine RL.y rfl (y_fa fa25_1 rfl rfl) ?_
        refine RL.y rfl (y_loadv sc2 (eqw ((((hV4.ext hE5).ext hE57).mod hM8 (by omega)).ext hE9)) rfl rfl) ?_
        refine RL.y rfl (y_mov rfl) ?_
        refine RL.nil ?_
        refine Fin.next ?_
        refine CW.block ?_
        refine CW.loop (fun m E w' => ∃ (k : Nat) (vi : Value), m = q.dp.toNat - k ∧ k ≤ q.dp.toNat ∧ agrees E [(4, .pointer (some ⟨w.heap.size, 0, none⟩)), (5, .pointer (some ⟨w1.heap.size, 0, none⟩)), (8, .pointer (some ⟨w2.heap.size, 0, none⟩)), (11, .func (.func 108) #[] [.pointer (some ⟨b, 0, none⟩), .pointer (some ⟨c, 0, none⟩), .pointer (some ⟨d, 0, none⟩)].toArray), (12, .pointer (some ⟨w5.heap.size, 0, none⟩)), (33, .int .i64 ss.length), (34, .int .i64 (i : Int)), (13, .int .i64 (i : Int)), (14, vi), (39, .int .i64 q.dp), (40, .int .i64 (k : Int))] ∧ OV w' w8.heap.size 2 vi (ints (wnS q ss[i] (a + 1).toNat t k)) ∧ Ext w8 w') _ (⟨0, vi, rfl, Nat.zero_le _, ⟨rfl, rfl, rfl, rfl, rfl, rfl, rfl, rfl, rfl, rfl, rfl, trivial⟩, hi9, hE9⟩) ?_
        · rintro m E w10 ⟨k, vi, rfl, hk, hag, hi10, hE10⟩
          refine CW.re _ hag rfl ?_
          have hwl : (wnS q ss[i] (a + 1).toNat t k).length ≤ k := idxs_le _ _
          refine CW.seq ?_
          refine CW.region ?_
          refine RL.y rfl (y_lt rfl rfl) ?_
          refine RL.nil ?_
          refine Fin.next ?_
          refine CW.seq ?_
          refine CW.cond rfl rfl (fun hck => ?_) (fun hck => ?_)
          · with_reducible first | (replace hck := deNF hck) | (replace hck := of_decide_eq_true hck) | (replace hck := of_decide_eq_false hck) | (replace hck := deNT hck) | (replace hck := deNN hck) | (replace hck := bnT hck) | (replace hck := bnF hck) | skip
            have hM10 : Mod w5.heap.size (w5.heap.size + 1) w7 w10 := hM8.trans (hE10.mod _ _)
            refine CW.skip ?_
            refine Fin.next ?_
            refine CW.seq ?_
            refine CW.block ?_
            refine CW.seq ?_
            refine CW.region ?_
            refine RL.y rfl (y_mov (v := .int _ _) rfl) ?_
            refine RL.y rfl (y_asg (v := .int _ _) rfl) ?_
            refine RL.nil ?_
            refine Fin.next ?_
            refine CW.seq ?_
            refine CW.region ?_
            refine RL.y rfl (y_mov (by conv => lhs; whnf)) ?_
            refine RL.y rfl (y_mov (v := .int _ _) rfl) ?_
            refine RL.y rfl (y_mov (v := .int _ _) rfl) ?_
            refine RL.callw rfl rfl (mayFree1_any (i := i) (((hB.ext hE57).mod hM10 (by omega))) (((hC'.ext hE57).mod hM10 (by omega))) (((hD.ext hE57).mod hM10 (by omega))) (hr.ext (hE07.then_mod hM10 (by omega))) hlti hrs (by omega) hn.1) ?_
            rintro r w11 ⟨rfl, hE11⟩
            have hE1011 := hE10.trans hE11
            refine RL.nil ?_
            refine Fin.next ?_
            refine CW.cond rfl rfl (fun hc => ?_) (fun hc => ?_)
            · with_reducible first | (replace hc := deNF hc) | (replace hc := of_decide_eq_true hc) | (replace hc := of_decide_eq_false hc) | (replace hc := deNT hc) | (replace hc := deNN hc) | (replace hc := bnT hc) | (replace hc := bnF hc) | skip
              refine CW.region ?_
              refine RL.y rfl (y_mov (by conv => lhs; whnf)) ?_
              refine RL.y rfl (y_mov (v := .int _ _) rfl) ?_
              refine RL.app1i rfl rfl sT29 (by omega) (hi10.ext hE11) (by omega) hE1011.size rfl (fun _ => rfl) (fun u v12 w12 ho12 hg12 hn12 => ?_)
              refine RL.y rfl (y_asg (by conv => lhs; whnf)) ?_
              refine RL.nil ?_
              refine Fin.blockNormal ?_
              refine Fin.next ?_
              refine CW.region ?_
              refine RL.y rfl (y_add rfl rfl (IntWalk.i64_in _ (by omega))) ?_
              refine RL.y rfl (y_mov (v := .int _ _) rfl) ?_
              refine RL.nil ?_
              refine Fin.le ?_
              exact ⟨q.dp.toNat - (k + 1), by omega, k + 1, v12, rfl, by omega, ⟨rfl, rfl, rfl, rfl, rfl, rfl, rfl, rfl, rfl, rfl, rfl, trivial⟩, by rw [wnS_yes hc]; exact ho12, hE1011.grown hg12 (fun b hb => (hi10.lt b hb).1)⟩
            · with_reducible first | (replace hc := deNF hc) | (replace hc := of_decide_eq_true hc) | (replace hc := of_decide_eq_false hc) | (replace hc := deNT hc) | (replace hc := deNN hc) | (replace hc := bnT hc) | (replace hc := bnF hc) | skip
              refine CW.skip ?_
              refine Fin.blockNormal ?_
              refine Fin.next ?_
              refine CW.region ?_
              refine RL.y rfl (y_add rfl rfl (IntWalk.i64_in _ (by omega))) ?_
              refine RL.y rfl (y_mov (v := .int _ _) rfl) ?_
              refine RL.nil ?_
              refine Fin.le ?_
              exact ⟨q.dp.toNat - (k + 1), by omega, k + 1, vi, rfl, by omega, ⟨rfl, rfl, rfl, rfl, rfl, rfl, rfl, rfl, rfl, rfl, rfl, trivial⟩, by rw [wnS_no hc]; exact hi10.ext hE11, hE1011⟩
          · with_reducible first | (replace hck := deNF hck) | (replace hck := of_decide_eq_true hck) | (replace hck := of_decide_eq_false hck) | (replace hck := deNT hck) | (replace hck := deNN hck) | (replace hck := bnT hck) | (replace hck := bnF hck) | skip
            obtain rfl : k = q.dp.toNat := by omega
            have ho10 := ho8.ext hE10
            refine CW.exit ?_
            refine Fin.thenExit ?_
            refine Fin.thenExit ?_
            refine Fin.blockHit ?_
            refine Fin.next ?_
            refine CW.region ?_
            refine RL.y rfl (y_fa fa28_0 rfl rfl) ?_
            refine RL.y rfl (y_loadv sc26 (eqw (hO8.ext hE10)) rfl rfl) ?_
            refine RL.y rfl (y_mov (by conv => lhs; whnf)) ?_
            refine RL.app1 rfl rfl sT26 (by omega) ho10.1.ov (by omega) (by have := hE10.size; omega) rfl (slice_one hi10.sv) (fun _ => rfl) (fun u v11 w11 ho11 hg11 hn11 => ?_)
            have hp := ho10.push (hi10.mono (by omega)) (fun b hb => by have := (hi10.lt b hb).1; omega) ho11 hg11 hn11
            rw [← wnL_snoc hlti] at hp
            have hO11 := (hO8.ext hE10).grown hg11 (fun e => by have := (ho8.1.lt _ e).1; omega)
            have hM11 : Mod w5.heap.size (w5.heap.size + 1) w7 w11 := mod_grown_new (hM8.trans (hE10.mod _ _)) hg11 (fun k hk => (ho8.1.lt _ hk).1)
            refine RL.y rfl (y_fa fa28_0 rfl rfl) ?_
            refine RL.storev so26 (hO11) (by simp) rfl rfl (slice_one ho11.sv) (fun w12 hO12 hg12 => ?_)
            replace hO12 : VR w12 w5.heap.size [v11] := hO12
            have hM12 : Mod w5.heap.size (w5.heap.size + 1) w11 w12 := grown_mod hg12 (fun k hk => by simp only [Option.some.injEq] at hk; omega)
            refine RL.nil ?_
            refine Fin.blockNormal ?_
            refine Fin.next ?_
            refine CW.region ?_
            refine RL.y rfl (y_add rfl rfl (IntWalk.i64_in _ (by omega))) ?_
            refine RL.y rfl (y_mov (v := .int _ _) rfl) ?_
            refine RL.nil ?_
            refine Fin.le ?_
            exact ⟨ss.length - (i + 1), by omega, i + 1, v11, _, _, rfl, hlti, ⟨rfl, rfl, rfl, rfl, rfl, rfl, rfl, trivial⟩, hO12, hp.mod hM12 (by omega), hM11.trans hM12⟩
      · with_reducible first | (replace hci := deNF hci) | (replace hci := of_decide_eq_true hci) | (replace hci := of_decide_eq_false hci) | (replace hci := deNT hci) | (replace hci := deNN hci) | (replace hci := bnT hci) | (replace hci := bnF hci) | skip
        obtain rfl : i = ss.length := by omega
        rw [List.take_length] at ho8
        have hU := ho8.1.2.1
        refine CW.exit ?_
        refine Fin.thenExit ?_
        refine Fin.thenExit ?_
        refine Fin.blockHit ?_
        refine Fin.next ?_
        refine CW.seq ?_
        refine CW.region ?_
        refine RL.y rfl (y_loads ag28 rfl (eqw (hO8)) rfl) ?_
        refine RL.stores ag28 ((((hX4.ext hE5).ext hE57).mod hM8 (by omega))) rfl rfl rfl rfl ((show ([vo] : List Value).all (·.oneCell') = true by simp only [List.all_cons, List.all_nil, Bool.and_true]; exact slice_one ho8.1.sv)) (fun w9 hX9 hg9 => ?_)
        replace hX9 : VR w9 w2.heap.size [vo] := hX9
        have hs9 := hg9.size
        have hM9 : Mod w2.heap.size (w2.heap.size + 1) w8 w9 := grown_mod hg9 (fun k hk => by simp only [Option.some.injEq] at hk; omega)
        have ho9 : OwSS w9 w7.heap.size U vo _ := ⟨cv, ho8.mod hM9 (by omega)⟩
        have hE08 : Ext w w8 := hE07.then_mod hM8 (by omega)
        refine RL.y rfl (y_asg rfl) ?_
        refine RL.nil ?_
        refine Fin.next ?_
        refine CW.ret ?_
        refine Fin.retct rfl ag28 rfl rfl (hX9) (by conv => lhs; whnf) ?_
        exact ⟨_, rfl, _, by rw [h1], by rw [wn_ok h1]; exact ⟨vo, rfl, OwN.wide ho9 (by omega) (by omega) (Nat.le_refl _)⟩, hE08.then_mod hM9 (by omega)⟩
end Go.Proofs.Ytaepdknmagaokaa
