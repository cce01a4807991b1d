/-
  Drawn plans.
-/
import Derived.Test.YtkkeipogkjlneaaFDrawB
import Derived.Test.YtkkeipogkjlneaaFPln5
namespace Go.Proofs.Ytkkeipogkjlneaa
open B Go.RowKit

theorem l10DrawNodes_any {w : World} {b : Nat} {v : Value} {ps : List Int} {ds : List Bool} (hs : Src w b) (hb : RdB w v ps ds) (hl : ps.length ≤ 30) :
    Does Try.prog 103 #[.pointer (some ⟨b, 0, none⟩), v] w (fun v' w' => ∃ ns, OV w' w.heap.size 2 v' (ints ns) ∧ ns.length ≤ 31 ∧ Drawn w b w') := by
  have hbw := hs.lt
  obtain ⟨vp, vd, rfl, hp, hd⟩ := hb
  refine enter Try.func103 rfl 34 Try.ntmps103 rfl (by kernel_rfl) ?_
  refine CW.seq ?_
  refine CW.region ?_
  refine RL.box (cs := [vp, vd]) rfl rfl rfl (fun w1 hV1 hE1 => ?_)
  have hs1 := hE1.size
  refine RL.y rfl (y_asg rfl) ?_
  refine RL.nil ?_
  refine Fin.next ?_
  refine CW.seq ?_
  refine CW.region ?_
  refine RL.lit0 rfl sT22 (fun vo w2 ho2 hE2 hb2 => ?_)
  have hX2 : Drawn w1 b w2 := (Drawn.refl (hs.ext hE1)).ext hE2
  refine RL.y rfl (y_asg (by conv => lhs; whnf)) ?_
  refine RL.nil ?_
  refine Fin.next ?_
  refine CW.seq ?_
  refine CW.seq ?_
  refine CW.region ?_
  refine RL.y rfl (y_asg rfl) ?_
  refine RL.nil ?_
  refine Fin.next ?_
  refine CW.block ?_
  refine CW.loop (fun m E w' => ∃ (i : Nat) (vo : Value) (ns : List Int), m = ps.length - i ∧ i ≤ ps.length ∧ agrees E [(0, .pointer (some ⟨b, 0, none⟩)), (3, .pointer (some ⟨w.heap.size, 0, none⟩)), (5, vo), (6, .int .i64 (i : Int))] ∧ OV w' w1.heap.size 2 vo (ints ns) ∧ ns.length ≤ i ∧ Drawn w1 b w') _ (⟨0, vo, [], rfl, Nat.zero_le _, ⟨rfl, rfl, rfl, rfl, trivial⟩, ho2, by simp, hX2⟩) ?_
  · rintro m E w3 ⟨i, vo, ns, rfl, hi, hag, ho3, hn3, hX3⟩
    refine CW.re _ hag rfl ?_
    refine CW.seq ?_
    refine CW.seq ?_
    refine CW.region ?_
    refine RL.y rfl (y_mov (v := .int _ _) rfl) ?_
    refine RL.y rfl (y_fa fa31_0 rfl rfl) ?_
    refine RL.y rfl (y_loadv sc22 (eqw (hV1.drawn hX3 (by omega))) rfl rfl) ?_
    refine RL.y rfl (y_len sT22 hp (ints_len _) rfl) ?_
    refine RL.y rfl (y_lt rfl rfl) ?_
    refine RL.nil ?_
    refine Fin.next ?_
    refine CW.cond rfl rfl (fun hc1 => ?_) (fun hc1 => ?_)
    · with_reducible first | (replace hc1 := deNF hc1) | (replace hc1 := of_decide_eq_true hc1) | (replace hc1 := of_decide_eq_false hc1) | (replace hc1 := deNT hc1) | (replace hc1 := deNN hc1) | (replace hc1 := bnT hc1) | (replace hc1 := bnF hc1) | skip
      have hlt : i < ps.length := by omega
      refine CW.skip ?_
      refine Fin.next ?_
      refine CW.seq ?_
      refine CW.block ?_
      refine CW.seq ?_
      refine CW.region ?_
      refine RL.y rfl (y_mov (by conv => lhs; whnf)) ?_
      refine RL.call rfl (l01Next_any hX3.1 (by omega)) ?_
      rintro r w4 ⟨x, rfl, -, hD4⟩
      have hX4 := hX3.trans hD4
      have ho4 := ho3.drawn hD4 (by omega)
      refine RL.y rfl (y_eq rfl rfl) ?_
      refine RL.nil ?_
      refine Fin.next ?_
      refine CW.cond rfl rfl (fun hc2 => ?_) (fun hc2 => ?_)
      · with_reducible first | (replace hc2 := deNF hc2) | (replace hc2 := of_decide_eq_true hc2) | (replace hc2 := of_decide_eq_false hc2) | (replace hc2 := deNT hc2) | (replace hc2 := deNN hc2) | (replace hc2 := bnT hc2) | (replace hc2 := bnF hc2) | skip
        refine CW.region ?_
        refine RL.y rfl (y_mov (by conv => lhs; whnf)) ?_
        refine RL.y rfl (y_mov (v := .int _ _) rfl) ?_
        refine RL.app1i rfl rfl sT22 (by omega) ho4 (by omega) hX4.size rfl (fun _ => rfl) (fun u v5 w5 ho5 hg5 hn5 => ?_)
        refine RL.y rfl (y_asg (by conv => lhs; whnf)) ?_
        refine RL.nil ?_
        refine Fin.blockNormal ?_
        refine Fin.next ?_
        refine CW.region ?_
        refine RL.y rfl (y_mov (v := .int _ _) rfl) ?_
        refine RL.y rfl (y_add rfl rfl (IntWalk.i64_in _ (by omega))) ?_
        refine RL.y rfl (y_asg (v := .int _ _) rfl) ?_
        refine RL.nil ?_
        refine Fin.le ?_
        exact ⟨ps.length - (i + 1), by omega, i + 1, v5, _, rfl, hlt, ⟨rfl, rfl, rfl, rfl, trivial⟩, ho5, by simp; omega, hX4.grown (by omega) hg5 (fun k hk => (ho4.lt _ hk).1)⟩
      · with_reducible first | (replace hc2 := deNF hc2) | (replace hc2 := of_decide_eq_true hc2) | (replace hc2 := of_decide_eq_false hc2) | (replace hc2 := deNT hc2) | (replace hc2 := deNN hc2) | (replace hc2 := bnT hc2) | (replace hc2 := bnF hc2) | skip
        refine CW.skip ?_
        refine Fin.blockNormal ?_
        refine Fin.next ?_
        refine CW.region ?_
        refine RL.y rfl (y_mov (v := .int _ _) rfl) ?_
        refine RL.y rfl (y_add rfl rfl (IntWalk.i64_in _ (by omega))) ?_
        refine RL.y rfl (y_asg (v := .int _ _) rfl) ?_
        refine RL.nil ?_
        refine Fin.le ?_
        exact ⟨ps.length - (i + 1), by omega, i + 1, vo, ns, rfl, hlt, ⟨rfl, rfl, rfl, rfl, trivial⟩, ho4, by omega, hX4⟩
    · with_reducible first | (replace hc1 := deNF hc1) | (replace hc1 := of_decide_eq_true hc1) | (replace hc1 := of_decide_eq_false hc1) | (replace hc1 := deNT hc1) | (replace hc1 := deNN hc1) | (replace hc1 := bnT hc1) | (replace hc1 := bnF hc1) | skip
      obtain rfl : i = ps.length := by omega
      refine CW.exit ?_
      refine Fin.thenExit ?_
      refine Fin.thenExit ?_
      refine Fin.blockHit ?_
      refine Fin.next ?_
      refine CW.seq ?_
      refine CW.seq ?_
      refine CW.region ?_
      refine RL.y rfl (y_mov (by conv => lhs; whnf)) ?_
      refine RL.y rfl (y_len sT22 ho3.sv (ints_len _) rfl) ?_
      refine RL.y rfl (y_eq rfl rfl) ?_
      refine RL.nil ?_
      refine Fin.next ?_
      refine CW.cond rfl rfl (fun hc3 => ?_) (fun hc3 => ?_)
      · with_reducible first | (replace hc3 := deNF hc3) | (replace hc3 := of_decide_eq_true hc3) | (replace hc3 := of_decide_eq_false hc3) | (replace hc3 := deNT hc3) | (replace hc3 := deNN hc3) | (replace hc3 := bnT hc3) | (replace hc3 := bnF hc3) | skip
        refine CW.region ?_
        refine RL.y rfl (y_mov (by conv => lhs; whnf)) ?_
        refine RL.y rfl (y_mov (by conv => lhs; whnf)) ?_
        refine RL.y rfl (y_fa fa31_0 rfl rfl) ?_
        refine RL.y rfl (y_loadv sc22 (eqw (hV1.drawn hX3 (by omega))) rfl rfl) ?_
        refine RL.y rfl (y_len sT22 hp (ints_len _) rfl) ?_
        refine RL.call rfl (l01Next_any hX3.1 (by omega)) ?_
        rintro r w4 ⟨x, rfl, -, hD4⟩
        have hX4 := hX3.trans hD4
        have ho4 := ho3.drawn hD4 (by omega)
        refine RL.app1i rfl rfl sT22 (by omega) ho4 (by omega) hX4.size rfl (fun _ => rfl) (fun u v5 w5 ho5 hg5 hn5 => ?_)
        have hX5 := hX4.grown (by omega) hg5 (fun k hk => (ho4.lt _ hk).1)
        refine RL.y rfl (y_asg (by conv => lhs; whnf)) ?_
        refine RL.nil ?_
        refine Fin.next ?_
        refine CW.seq ?_
        refine CW.region ?_
        refine RL.y rfl (y_mov (by conv => lhs; whnf)) ?_
        refine RL.y rfl (y_asg (by conv => lhs; whnf)) ?_
        refine RL.nil ?_
        refine Fin.next ?_
        refine CW.ret ?_
        refine Fin.ret1 rfl (by conv => lhs; whnf) ?_
        exact ⟨_, rfl, _, ho5.mono hs1, by simp; omega, ⟨hX5.1, (hE1.mod _ _).trans hX5.2⟩⟩
      · with_reducible first | (replace hc3 := deNF hc3) | (replace hc3 := of_decide_eq_true hc3) | (replace hc3 := of_decide_eq_false hc3) | (replace hc3 := deNT hc3) | (replace hc3 := deNN hc3) | (replace hc3 := bnT hc3) | (replace hc3 := bnF hc3) | skip
        refine CW.skip ?_
        refine Fin.next ?_
        refine CW.seq ?_
        refine CW.region ?_
        refine RL.y rfl (y_mov (by conv => lhs; whnf)) ?_
        refine RL.y rfl (y_asg (by conv => lhs; whnf)) ?_
        refine RL.nil ?_
        refine Fin.next ?_
        refine CW.ret ?_
        refine Fin.ret1 rfl (by conv => lhs; whnf) ?_
        exact ⟨_, rfl, ns, ho3.mono hs1, by omega, ⟨hX3.1, (hE1.mod _ _).trans hX3.2⟩⟩

theorem l10Valid_any {w : World} {b : Nat} (hs : Src w b) :
    Does Try.prog 124 #[.pointer (some ⟨b, 0, none⟩)] w (fun v' w' => ∃ vp vd vr cs ps ds rs M, v' = .agg #[vp, vd, vr] ∧ RuB w' w.heap.size M (.agg #[vp, vd]) ps ds ∧ OwC ints 2 22 w' M w'.heap.size vr cs rs ∧ w.heap.size ≤ M ∧ (ps.length ≤ 10 ∧ 1 ≤ rs.length ∧ rs.length ≤ 4) ∧ Drawn w b w') := by
  have hbw := hs.lt
  refine enter Try.func124 rfl 25 Try.ntmps124 rfl (by kernel_rfl) ?_
  refine CW.seq ?_
  refine CW.region ?_
  refine RL.alloc rfl ze33 (fun w1 hV1 hE1 => ?_)
  have hc1 := hV1.lt
  refine RL.nil ?_
  refine Fin.next ?_
  refine CW.seq ?_
  refine CW.region ?_
  refine RL.y rfl (y_mov (by conv => lhs; whnf)) ?_
  refine RL.call rfl (l09Valid_any (hs.ext hE1)) ?_
  rintro v w2 ⟨ps, ds, ho2, hlen, hD2⟩
  have hR2 := ho2.ru
  obtain ⟨vp, vd, rfl, _⟩ := id hR2
  have hV2 := hV1.drawn hD2 (by omega)
  have hs2 := hD2.size
  refine RL.alloc rfl ze31 (fun w3 hW3 hE3 => ?_)
  refine RL.stores ag31 (hW3) rfl rfl rfl rfl (hR2.one) (fun w4 hW4 hg4 => ?_)
  replace hW4 : VR w4 w2.heap.size [vp, vd] := hW4
  have hE24 : Ext w2 w4 := hE3.grown hg4 (fun b hb => by simp only [Option.some.injEq] at hb; omega)
  have hs4 := hE24.size
  have hl4 := hW4.lt
  have hV4 := hV2.ext hE24
  have hR4 := hR2.ext hE24
  have hX4 : Drawn w4 b w4 := Drawn.refl (hD2.1.ext hE24)
  refine RL.nil ?_
  refine Fin.next ?_
  refine CW.seq ?_
  refine CW.region ?_
  refine RL.lit0 rfl sT26 (fun vo w5 ho5 hE5 hb5 => ?_)
  have hX5 := hX4.ext hE5
  refine RL.y rfl (y_asg (by conv => lhs; whnf)) ?_
  refine RL.nil ?_
  refine Fin.next ?_
  refine CW.seq ?_
  refine CW.seq ?_
  refine CW.region ?_
  refine RL.y rfl (y_mov (by conv => lhs; whnf)) ?_
  refine RL.call rfl (l01Next_any hX5.1 (by omega)) ?_
  rintro r w6 ⟨x, rfl, ⟨hx0, hx1, -⟩, hD6⟩
  replace hx1 := hx1 (by omega)
  obtain ⟨nn, hnn, hnx⟩ : ∃ k : Nat, (1 ≤ k ∧ k ≤ 4) ∧ 1 + x = (k : Int) := ⟨(1 + x).toNat, by omega, by omega⟩
  refine RL.y rfl (y_add rfl rfl ((show IntKind.i64.wrap (1 + x) = ((nn : Nat) : Int) by rw [IntWalk.i64_in _ (by omega)]; omega))) ?_
  refine RL.y rfl (y_asg (v := .int _ _) rfl) ?_
  refine RL.nil ?_
  refine Fin.next ?_
  refine CW.block ?_
  refine CW.loop (fun m E w' => ∃ (k : Nat) (vo : Value) (cv : List Value) (U : Nat) (rs : List (List Int)), k = m ∧ agrees E [(0, .pointer (some ⟨b, 0, none⟩)), (2, .pointer (some ⟨w.heap.size, 0, none⟩)), (3, .pointer (some ⟨w2.heap.size, 0, none⟩)), (4, vo), (5, .int .i64 (k : Int))] ∧ OwC ints 2 22 w' w4.heap.size U vo cv rs ∧ (rs.length + k ≤ 4 ∧ 1 ≤ rs.length + k) ∧ Drawn w4 b w') _ (⟨nn, vo, [], _, [], rfl, ⟨rfl, rfl, rfl, rfl, rfl, trivial⟩, (OwC.nil ho5).mod hD6.2 (.inr (by omega)), ⟨by simp; omega, by simp; omega⟩, hX5.trans hD6⟩) ?_
  · rintro m E w7 ⟨k, vo, cv, U, rs, rfl, hag, ho7, hrl, hX7⟩
    refine CW.re _ hag rfl ?_
    have hcl := ho7.2.1
    refine CW.seq ?_
    refine CW.seq ?_
    refine CW.region ?_
    refine RL.y rfl (y_mov (v := .int _ _) rfl) ?_
    refine RL.y rfl (y_gt rfl rfl) ?_
    refine RL.nil ?_
    refine Fin.next ?_
    refine CW.cond rfl rfl (fun hc2 => ?_) (fun hc2 => ?_)
    · with_reducible first | (replace hc2 := deNF hc2) | (replace hc2 := of_decide_eq_true hc2) | (replace hc2 := of_decide_eq_false hc2) | (replace hc2 := deNT hc2) | (replace hc2 := deNN hc2) | (replace hc2 := bnT hc2) | (replace hc2 := bnF hc2) | skip
      refine CW.skip ?_
      refine Fin.next ?_
      refine CW.seq ?_
      refine CW.block ?_
      refine CW.region ?_
      refine RL.y rfl (y_mov (by conv => lhs; whnf)) ?_
      refine RL.y rfl (y_mov (by conv => lhs; whnf)) ?_
      refine RL.y rfl (y_loads ag31 rfl (eqw (hW4.drawn hX7 (by omega))) rfl) ?_
      refine RL.call rfl (l10DrawNodes_any hX7.1 (hR4.mod hX7.2 (by omega)).rd (by omega)) ?_
      rintro vn w8 ⟨ns, hon, hnl, hD8⟩
      have hX8 := hX7.trans hD8
      have ho8 := ho7.mod hD8.2 (.inr (by omega))
      have hU7 := ho7.1.2.1
      refine RL.app1 rfl rfl sT26 (by omega) ho8.1.ov (by omega) hX8.size rfl (slice_one hon.sv) (fun _ => rfl) (fun u v9 w9 ho9 hg9 hn9 => ?_)
      have hpu := ho8.push (hon.mono hX7.size) (fun b hb => by have := (hon.lt b hb).1; omega) ho9 hg9 hn9
      refine RL.y rfl (y_asg (by conv => lhs; whnf)) ?_
      refine RL.nil ?_
      refine Fin.blockNormal ?_
      refine Fin.next ?_
      refine CW.region ?_
      refine RL.y rfl (y_mov (v := .int _ _) rfl) ?_
      refine RL.y rfl (y_sub rfl rfl (IntWalk.i64_in _ (by omega))) ?_
      refine RL.y rfl (y_asg (v := .int _ _) rfl) ?_
      refine RL.nil ?_
      refine Fin.le ?_
      exact ⟨k - 1, by omega, k - 1, v9, _, _, _, rfl, ⟨rfl, rfl, rfl, rfl, by rw [show ((k - 1 : Nat) : Int) = (k : Int) - 1 from by omega]; rfl, trivial⟩, hpu, ⟨by simp; omega, by simp; omega⟩, hX8.grown (by omega) hg9 (fun k hk => (ho8.1.lt _ hk).1)⟩
    · with_reducible first | (replace hc2 := deNF hc2) | (replace hc2 := of_decide_eq_true hc2) | (replace hc2 := of_decide_eq_false hc2) | (replace hc2 := deNT hc2) | (replace hc2 := deNN hc2) | (replace hc2 := bnT hc2) | (replace hc2 := bnF hc2) | skip
      have hs7 := hX7.size
      have hR7 := hR4.mod hX7.2 (by omega)
      refine CW.exit ?_
      refine Fin.thenExit ?_
      refine Fin.thenExit ?_
      refine Fin.blockHit ?_
      refine Fin.next ?_
      refine CW.seq ?_
      refine CW.region ?_
      refine RL.y rfl (y_loads ag31 rfl (eqw (hW4.drawn hX7 (by omega))) rfl) ?_
      refine RL.y rfl (y_mov (by conv => lhs; whnf)) ?_
      refine RL.y rfl (y_build bd33 rfl (fill_put (cs := [vp, vd]) rfl rfl (Nat.le_of_ble_eq_true rfl) (fill_one (slice_one ho7.1.sv) rfl rfl fill_nil))) ?_
      have hone := hR7.one
      refine RL.stores ag33 ((hV4.drawn hX7 (by omega))) rfl rfl rfl rfl ((show ([vp, vd, vo] : List Value).all (·.oneCell') = true by simp only [List.all_cons, List.all_nil, Bool.and_true, Bool.and_eq_true] at hone ⊢; exact ⟨hone.1, hone.2, slice_one ho7.1.sv⟩)) (fun w8 hV8 hg8 => ?_)
      replace hV8 : VR w8 w.heap.size [vp, vd, vo] := hV8
      have hs8 := hg8.size
      have hU7 := ho7.1.2.1
      have hM8 : Mod w.heap.size (w.heap.size + 1) w7 w8 := grown_mod hg8 (fun k hk => by simp only [Option.some.injEq] at hk; omega)
      have hD8 : Drawn w b w8 := (show Drawn w b w7 from ⟨hX7.1, (hE1.mod _ _).trans (hD2.2.trans ((hE24.mod _ _).trans hX7.2))⟩).grown hbw hg8 (fun k hk => by simp only [Option.some.injEq] at hk; omega)
      have hR8 := hR7.mod hM8 (by omega)
      have ho8 := ho7.mod hM8 (by omega)
      refine RL.nil ?_
      refine Fin.next ?_
      refine CW.ret ?_
      refine Fin.retc rfl ag33 rfl rfl (hV8) ?_
      exact ⟨_, rfl, vp, vd, vo, cv, ps, ds, rs, w4.heap.size, rfl, hR8.wide (by omega) (by omega) (by omega), ⟨ho8.1.wide (by omega) (by omega) (Nat.le_refl _), ho8.2.1, fun i hi => ⟨(ho8.2.2.1 i hi).1.wide (by omega) (by omega) (Nat.le_refl _), (ho8.2.2.1 i hi).2⟩, ho8.2.2.2⟩, by omega, ⟨by omega, by omega, by omega⟩, hD8⟩

theorem l10Draw_any {w : World} {b : Nat} (hs : Src w b) :
    Does Try.prog 100 #[.pointer (some ⟨b, 0, none⟩)] w (fun v' w' => ∃ ps ds rs, RuP w' w.heap.size w'.heap.size v' ps ds rs ∧ (ps.length ≤ 30 ∧ rs.length ≤ 30) ∧ Drawn w b w') := by
  have hbw := hs.lt
  refine enter Try.func100 rfl 58 Try.ntmps100 rfl (by kernel_rfl) ?_
  refine CW.seq ?_
  refine CW.region ?_
  refine RL.alloc rfl ze33 (fun w1 hV1 hE1 => ?_)
  have hc1 := hV1.lt
  have hbw1 : b < w1.heap.size := by omega
  refine RL.nil ?_
  refine Fin.next ?_
  refine CW.seq ?_
  refine CW.region ?_
  refine RL.y rfl (y_mov (by conv => lhs; whnf)) ?_
  refine RL.call rfl (l10Valid_any (hs.ext hE1)) ?_
  rintro v w2 ⟨vp, vd, vr, cs, ps, ds, rs, M, rfl, hR2, ho2, hM, hlen, hD2⟩
  obtain ⟨_, _, _, _, _, _, _, hMw⟩ := id hR2
  have hone2 := hR2.one
  have hone : ([vp, vd, vr] : List Value).all (·.oneCell') = true := by simp only [List.all_cons, List.all_nil, Bool.and_true, Bool.and_eq_true] at hone2 ⊢; exact ⟨hone2.1, hone2.2, slice_one ho2.1.sv⟩
  have hV2 := hV1.drawn hD2 (by omega)
  have hs2 := hD2.size
  refine RL.alloc rfl ze33 (fun w3 hW3 hE3 => ?_)
  have hw3 := hW3.lt
  refine RL.stores ag33 (hW3) rfl rfl rfl rfl (hone) (fun w4 hW4 hg4 => ?_)
  replace hW4 : VR w4 w2.heap.size [vp, vd, vr] := hW4
  have hsg4 := hg4.size
  have hE24 : Ext w2 w4 := hE3.grown hg4 (fun b hb => by simp only [Option.some.injEq] at hb; omega)
  have hs4 := hE24.size
  have hV4 := hV2.ext hE24
  have hR4 := hR2.ext hE24
  have ho4 := ho2.ext hE24
  have hD4 : Drawn w1 b w4 := hD2.ext hE24
  refine RL.nil ?_
  refine Fin.next ?_
  refine CW.seq ?_
  refine CW.seq ?_
  refine CW.region ?_
  refine RL.y rfl (y_mov (by conv => lhs; whnf)) ?_
  refine RL.call rfl (l01Next_any hD4.1 (by omega)) ?_
  rintro r w6 ⟨y, rfl, -, hD6⟩
  have hs6 := hD6.size
  have hV6 := hV4.drawn hD6 (by omega)
  have hW6 := hW4.drawn hD6 (by omega)
  have hR6 := hR4.mod hD6.2 (.inr (by omega))
  have ho6 := ho4.mod hD6.2 (.inr (by omega))
  have hU6 := ho6.1.2.1
  have hl0 : 0 < cs.length := by rw [ho6.2.1]; omega
  replace hD6 := hD4.trans hD6
  have hX6 : Drawn w6 b w6.drew := (Drawn.refl hD6.1).ext (Ext.drew _)
  refine RL.nil ?_
  refine Fin.next ?_
  refine CW.block ?_
  refine CW.seq ?_
  refine CW.region ?_
  refine RL.y rfl (y_eq rfl rfl) ?_
  refine RL.y rfl (y_asg (v := .bool _) rfl) ?_
  refine RL.nil ?_
  refine Fin.next ?_
  refine CW.cond rfl rfl (fun hc0 => ?_) (fun hc0 => ?_)
  · with_reducible first | (replace hc0 := deNF hc0) | (replace hc0 := of_decide_eq_true hc0) | (replace hc0 := of_decide_eq_false hc0) | (replace hc0 := deNT hc0) | (replace hc0 := deNN hc0) | (replace hc0 := bnT hc0) | (replace hc0 := bnF hc0) | skip
    obtain ⟨hpr, hdr⟩ : SI w6 vp ps ∧ SB w6 vd ds := by obtain ⟨a, c, e, h1, h2, _⟩ := hR6; obtain ⟨rfl, rfl⟩ : vp = a ∧ vd = c := (by simpa using e); exact ⟨h1, h2⟩
    refine CW.any (Drawn w6 b) [7, 8, 9, 11] mixed rfl (hX6) ?_
    refine AL.y 0 rfl rfl (by kernel_rfl) (by kernel_rfl) (by kernel_rfl) rfl (y_fa fa33_1 rfl rfl) ?_
    refine AL.y 1 rfl rfl (by kernel_rfl) (by kernel_rfl) (by kernel_rfl) rfl (y_loadv sc26 (fun _ hC => (hW6).drawn hC (by omega)) rfl rfl) ?_
    refine AL.y 2 rfl rfl (by kernel_rfl) (by kernel_rfl) (by kernel_rfl) rfl (y_mov (by conv => lhs; whnf)) ?_
    refine AL.y 3 rfl rfl (by kernel_rfl) (by kernel_rfl) (by kernel_rfl) rfl (y_fa fa33_0 rfl rfl) ?_
    refine AL.y 4 rfl rfl (by kernel_rfl) (by kernel_rfl) (by kernel_rfl) rfl (y_fa fa31_0 rfl rfl) ?_
    refine AL.y 5 rfl rfl (by kernel_rfl) (by kernel_rfl) (by kernel_rfl) rfl (y_loadv sc22 (fun _ hC => (hW6).drawn hC (by omega)) rfl rfl) ?_
    refine AL.y 6 rfl rfl (by kernel_rfl) (by kernel_rfl) (by kernel_rfl) rfl (y_len sT22 hpr (ints_len _) rfl) ?_
    refine AL.one (i := 7) (by kernel_rfl) rfl rfl ?_ 
    intro hr hJ
    refine RL.lits [.int .i64 (-1), .int .i64 0, .int .i64 (ps.length : Int)] rfl sT22 rfl (by omega) (by simp [Value.oneCell']) rfl (fun vq w7 hoq hE7 hbq => ?_)
    have hX7 : Drawn w6 b w7 := hX6.ext hE7
    refine RL.nil ?_
    refine Fin.al hr hJ (.inr hX7) ?_
    refine AL.one (i := 8) (by kernel_rfl) rfl rfl ?_ 
    intro hr hJ
    refine RL.call rfl (l01Pick_any (xs := [-1, 0, (ps.length : Int)]) hX7.1 hoq.sv (by simp) (fun x hx => by have := (hoq.lt x hx).1; have := hX6.size; omega)) ?_
    rintro r w8 ⟨z, rfl, -, hD8⟩
    have hX8 : Drawn w6 b w8 := hX7.trans hD8
    refine RL.nil ?_
    refine Fin.al hr hJ (.inr hX8) ?_
    refine AL.one (i := 9) (by kernel_rfl) rfl rfl ?_ 
    intro hr hJ
    refine RL.lit1 rfl sT22 rfl rfl (fun vz w9 hoz hE9 hbz => ?_)
    have hX9 := hX8.ext hE9
    have hs9 := hX9.size
    have hs8 := hX8.size
    refine RL.nil ?_
    refine Fin.al hr hJ (.inr hX9) ?_
    refine AL.y 10 rfl rfl (by kernel_rfl) (by kernel_rfl) (by kernel_rfl) rfl (y_ixa sT26 (fun _ hC => (ho6.1.mod hC.2 (.inr (by omega))).sv) (k := 0) hl0 rfl rfl) ?_
    have ho9 := ho6.mod hX9.2 (.inr (by omega))
    refine AL.one (i := 11) (by kernel_rfl) rfl rfl ?_ 
    intro hr hJ
    refine RL.store sT26 ho9.1.ov (k := 0) (x := vz) hl0 rfl rfl (slice_one hoz.sv) (fun w10 ho10 hg10 => ?_)
    refine RL.nil ?_
    refine Fin.al hr hJ (.inl (by kernel_rfl)) ?_
    refine AL.nil (by kernel_rfl) ?_
    have hs10 := hg10.size
    have hQ10 := ho9.put (i := 0) (r := [z]) (by omega) (hoz.mono (by omega)) (fun x h1 h2 => by have := (hoz.lt x h1).1; have := (ho6.1.lt x h2).2; omega) ho10 hg10
    have hV10 := (hV6.drawn hX9 (by omega)).grown hg10 (fun e => by have := (ho6.1.lt _ e).1; omega)
    have hW10 := (hW6.drawn hX9 (by omega)).grown hg10 (fun e => by have := (ho2.1.lt _ e).2; omega)
    have hR10 := (hR6.mod hX9.2 (.inr (by omega))).mod (grown_mod (B := M) (U := w2.heap.size) hg10 (fun k hk => ho6.1.lt k hk)) (.inl (Nat.le_refl _))
    have hD10 : Drawn w1 b w10 := (hD6.trans hX9).grown hbw1 hg10 (fun k hk => Nat.le_trans hM (ho6.1.lt _ hk).1)
    refine Fin.blockNormal ?_
    refine Fin.next ?_
    refine CW.seq ?_
    refine CW.region ?_
    refine RL.y rfl (y_loads ag33 rfl (eqw (hW10)) rfl) ?_
    refine RL.stores ag33 (hV10) rfl rfl rfl rfl (hone) (fun w11 hV11 hg11 => ?_)
    replace hV11 : VR w11 w.heap.size [vp, vd, vr] := hV11
    have hs11 := hg11.size
    have hM11 : Mod w.heap.size (w.heap.size + 1) w10 w11 := grown_mod hg11 (fun k hk => by simp only [Option.some.injEq] at hk; omega)
    have hD11 : Drawn w b w11 := (show Drawn w b w10 from ⟨hD10.1, (hE1.mod _ _).trans hD10.2⟩).grown hbw hg11 (fun k hk => by simp only [Option.some.injEq] at hk; omega)
    have hB11 := hR10.mod hM11 (by omega)
    have hT11 := hQ10.mod hM11 (by omega)
    refine RL.nil ?_
    refine Fin.next ?_
    refine CW.ret ?_
    refine Fin.retc rfl ag33 rfl rfl (hV11) ?_
    exact ⟨_, rfl, ps, ds, _, ⟨vp, vd, vr, rfl, hB11.wide (by omega) (by omega) (Nat.le_refl _), hT11.wide (by omega) (by omega) (Nat.le_refl _)⟩, ⟨by omega, by simp; omega⟩, hD11⟩
  · with_reducible first | (replace hc0 := deNF hc0) | (replace hc0 := of_decide_eq_true hc0) | (replace hc0 := of_decide_eq_false hc0) | (replace hc0 := deNT hc0) | (replace hc0 := deNN hc0) | (replace hc0 := bnT hc0) | (replace hc0 := bnF hc0) | skip
    refine CW.seq ?_
    refine CW.region ?_
    refine RL.y rfl (y_eq rfl rfl) ?_
    refine RL.y rfl (y_asg (v := .bool _) rfl) ?_
    refine RL.nil ?_
    refine Fin.next ?_
    refine CW.cond rfl rfl (fun hc1b => ?_) (fun hc1b => ?_)
    · with_reducible first | (replace hc1b := deNF hc1b) | (replace hc1b := of_decide_eq_true hc1b) | (replace hc1b := of_decide_eq_false hc1b) | (replace hc1b := deNT hc1b) | (replace hc1b := deNN hc1b) | (replace hc1b := bnT hc1b) | (replace hc1b := bnF hc1b) | skip
      refine CW.region ?_
      refine RL.y rfl (y_fa fa33_1 rfl rfl) ?_
      refine RL.y rfl (y_loadv sc26 (eqw (hW6)) rfl rfl) ?_
      refine RL.y rfl (y_ixa sT26 (eqw (ho6.1.sv)) (k := 0) hl0 rfl rfl) ?_
      refine RL.store sT26 ho6.1.ov (k := 0) (x := .slice none 0 0) hl0 rfl rfl rfl (fun w10 ho10 hg10 => ?_)
      have hs10 := hg10.size
      have hQ10 := ho6.put (i := 0) (r := []) (by omega) (OV.nil _ _ _) (fun x h1 h2 => by simp [Value.ownBlock] at h1) ho10 hg10
      have hV10 := hV6.grown hg10 (fun e => by have := (ho6.1.lt _ e).1; omega)
      have hW10 := hW6.grown hg10 (fun e => by have := (ho2.1.lt _ e).2; omega)
      have hR10 := hR6.mod (grown_mod (B := M) (U := w2.heap.size) hg10 (fun k hk => ho6.1.lt k hk)) (.inl (Nat.le_refl _))
      have hD10 : Drawn w1 b w10 := hD6.grown hbw1 hg10 (fun k hk => by have := (ho6.1.lt _ hk).1; omega)
      refine RL.nil ?_
      refine Fin.blockNormal ?_
      refine Fin.next ?_
      refine CW.seq ?_
      refine CW.region ?_
      refine RL.y rfl (y_loads ag33 rfl (eqw (hW10)) rfl) ?_
      refine RL.stores ag33 (hV10) rfl rfl rfl rfl (hone) (fun w11 hV11 hg11 => ?_)
      replace hV11 : VR w11 w.heap.size [vp, vd, vr] := hV11
      have hs11 := hg11.size
      have hM11 : Mod w.heap.size (w.heap.size + 1) w10 w11 := grown_mod hg11 (fun k hk => by simp only [Option.some.injEq] at hk; omega)
      have hD11 : Drawn w b w11 := (show Drawn w b w10 from ⟨hD10.1, (hE1.mod _ _).trans hD10.2⟩).grown hbw hg11 (fun k hk => by simp only [Option.some.injEq] at hk; omega)
      have hB11 := hR10.mod hM11 (by omega)
      have hT11 := hQ10.mod hM11 (by omega)
      refine RL.nil ?_
      refine Fin.next ?_
      refine CW.ret ?_
      refine Fin.retc rfl ag33 rfl rfl (hV11) ?_
      exact ⟨_, rfl, ps, ds, _, ⟨vp, vd, vr, rfl, hB11.wide (by omega) (by omega) (Nat.le_refl _), hT11.wide (by omega) (by omega) (Nat.le_refl _)⟩, ⟨by omega, by simp; omega⟩, hD11⟩
    · with_reducible first | (replace hc1b := deNF hc1b) | (replace hc1b := of_decide_eq_true hc1b) | (replace hc1b := of_decide_eq_false hc1b) | (replace hc1b := deNT hc1b) | (replace hc1b := deNN hc1b) | (replace hc1b := bnT hc1b) | (replace hc1b := bnF hc1b) | skip
      refine CW.seq ?_
      refine CW.region ?_
      refine RL.y rfl (y_eq rfl rfl) ?_
      refine RL.y rfl (y_asg (v := .bool _) rfl) ?_
      refine RL.nil ?_
      refine Fin.next ?_
      refine CW.cond rfl rfl (fun hc2 => ?_) (fun hc2 => ?_)
      · with_reducible first | (replace hc2 := deNF hc2) | (replace hc2 := of_decide_eq_true hc2) | (replace hc2 := of_decide_eq_false hc2) | (replace hc2 := deNT hc2) | (replace hc2 := deNN hc2) | (replace hc2 := bnT hc2) | (replace hc2 := bnF hc2) | skip
        refine CW.seq ?_
        refine CW.any (Drawn w6 b) [1, 5] mixed rfl (hX6) ?_
        refine AL.y 0 rfl rfl (by kernel_rfl) (by kernel_rfl) (by kernel_rfl) rfl (y_mov (by conv => lhs; whnf)) ?_
        refine AL.y 2 rfl rfl (by kernel_rfl) (by kernel_rfl) (by kernel_rfl) rfl (y_fa fa33_1 rfl rfl) ?_
        refine AL.y 3 rfl rfl (by kernel_rfl) (by kernel_rfl) (by kernel_rfl) rfl (y_loadv sc26 (fun _ hC => (hW6).drawn hC (by omega)) rfl rfl) ?_
        refine AL.one (i := 1) (by kernel_rfl) rfl rfl ?_ 
        intro hr hJ
        refine RL.call rfl (l09Draw_any hX6.1) ?_
        rintro vb w8 ⟨ps2, ds2, hB8, hl8, hD8⟩
        obtain ⟨vp2, vd2, rfl, _⟩ := id hB8
        have hone8 := hB8.one
        have hX8 := hX6.trans hD8
        have hs8 := hX8.size
        have hsd := hX6.size
        refine RL.nil ?_
        refine Fin.al hr hJ (.inr hX8) ?_
        have ho8 := ho6.mod hX8.2 (.inr (by omega))
        refine AL.y 4 rfl rfl (by kernel_rfl) (by kernel_rfl) (by kernel_rfl) rfl (y_build bd33 rfl (fill_put (cs := [vp2, vd2]) rfl rfl (Nat.le_of_ble_eq_true rfl) (fill_one (slice_one ho6.1.sv) rfl rfl fill_nil))) ?_
        refine AL.one (i := 5) (by kernel_rfl) rfl rfl ?_ 
        intro hr hJ
        refine RL.stores ag33 ((hV6.drawn hX8 (by omega))) rfl rfl rfl rfl ((show ([vp2, vd2, vr] : List Value).all (·.oneCell') = true by simp only [List.all_cons, List.all_nil, Bool.and_true, Bool.and_eq_true] at hone8 ⊢; exact ⟨hone8.1, hone8.2, slice_one ho6.1.sv⟩)) (fun w11 hV11 hg11 => ?_)
        replace hV11 : VR w11 w.heap.size [vp2, vd2, vr] := hV11
        have hs11 := hg11.size
        have hM11 : Mod w.heap.size (w.heap.size + 1) w8 w11 := grown_mod hg11 (fun k hk => by simp only [Option.some.injEq] at hk; omega)
        have hD11 : Drawn w b w11 := (show Drawn w b w8 from ⟨hX8.1, (hE1.mod _ _).trans (hD6.trans hX8).2⟩).grown hbw hg11 (fun k hk => by simp only [Option.some.injEq] at hk; omega)
        have hB11 := hB8.mod hM11 (by omega)
        have hT11 := (OwN.ru ⟨_, ho8⟩).mod hM11 (by omega)
        refine RL.nil ?_
        refine Fin.al hr hJ (by first | exact .inl (by kernel_rfl) | (refine .inr ?_; assumption)) ?_
        refine AL.nil (by kernel_rfl) ?_
        refine Fin.next ?_
        refine CW.ret ?_
        refine Fin.blockRet ?_
        refine Fin.thenRet ?_
        refine Fin.retc rfl ag33 rfl rfl (hV11) ?_
        exact ⟨_, rfl, ps2, ds2, rs, ⟨vp2, vd2, vr, rfl, hB11.wide (by omega) (by omega) (Nat.le_refl _), hT11.wide (by omega) (by omega) (Nat.le_refl _)⟩, ⟨by omega, by omega⟩, hD11⟩
      · with_reducible first | (replace hc2 := deNF hc2) | (replace hc2 := of_decide_eq_true hc2) | (replace hc2 := of_decide_eq_false hc2) | (replace hc2 := deNT hc2) | (replace hc2 := deNN hc2) | (replace hc2 := bnT hc2) | (replace hc2 := bnF hc2) | skip
        refine CW.seq ?_
        refine CW.region ?_
        refine RL.y rfl (y_eq rfl rfl) ?_
        refine RL.y rfl (y_asg (v := .bool _) rfl) ?_
        refine RL.nil ?_
        refine Fin.next ?_
        refine CW.cond rfl rfl (fun hc3 => ?_) (fun hc3 => ?_)
        · with_reducible first | (replace hc3 := deNF hc3) | (replace hc3 := of_decide_eq_true hc3) | (replace hc3 := of_decide_eq_false hc3) | (replace hc3 := deNT hc3) | (replace hc3 := deNN hc3) | (replace hc3 := bnT hc3) | (replace hc3 := bnF hc3) | skip
          refine CW.seq ?_
          refine CW.region ?_
          refine RL.y rfl (y_fa fa33_1 rfl rfl) ?_
          refine RL.y rfl (y_loadv sc26 (eqw (hW6)) rfl rfl) ?_
          obtain ⟨vr0, hvr0⟩ : ∃ x, x = vr := ⟨_, rfl⟩
          rw [← hvr0] at hW6
          refine RL.y rfl (y_asg (by conv => lhs; whnf)) ?_
          refine RL.nil ?_
          refine Fin.next ?_
          refine CW.seq ?_
          refine CW.block ?_
          refine CW.loop (fun m E w' => ∃ (vr : Value) (cs : List Value) (rs : List (List Int)) (U : Nat), m = 30 - rs.length ∧ agrees E [(0, .pointer (some ⟨b, 0, none⟩)), (2, .pointer (some ⟨w.heap.size, 0, none⟩)), (3, .pointer (some ⟨w2.heap.size, 0, none⟩)), (4, vr)] ∧ OwC ints 2 22 w' M U vr cs rs ∧ rs.length ≤ 30 ∧ RuB w' w1.heap.size M (.agg #[vp, vd]) ps ds ∧ VR w' w2.heap.size [vp, vd, vr0] ∧ VR w' w.heap.size [.slice none 0 0, .slice none 0 0, .slice none 0 0] ∧ Drawn w1 b w' ∧ w6.heap.size ≤ w'.heap.size ∧ (∀ x, vr.ownBlock = some x → x ≠ w2.heap.size)) _ (⟨vr, cs, rs, _, rfl, ⟨rfl, rfl, rfl, rfl, trivial⟩, ho6, by omega, hR6, hW6, hV6, hD6, Nat.le_refl _, (fun x hx => by have := (ho6.1.lt x hx).2; omega)⟩) ?_
          · rintro m E w7 ⟨vx, cx, rx, U, rfl, hag, ho7, hrx, hR7, hW7, hV7, hD7, hs67, hvn⟩
            refine CW.re _ hag rfl ?_
            have hcx := ho7.2.1
            have hU7 := ho7.1.2.1
            refine CW.seq ?_
            refine CW.seq ?_
            refine CW.region ?_
            refine RL.y rfl (y_mov (by conv => lhs; whnf)) ?_
            refine RL.y rfl (y_len sT26 ho7.1.sv hcx rfl) ?_
            refine RL.y rfl (y_mov (by conv => lhs; whnf)) ?_
            refine RL.call rfl (l01Next_any hD7.1 (by omega)) ?_
            rintro r w8 ⟨y2, rfl, ⟨hy0, hy1, -⟩, hD8⟩
            replace hy1 := hy1 (by omega)
            have ho8 := ho7.mod hD8.2 (.inr (by omega))
            have hR8 := hR7.mod hD8.2 (.inr (by omega))
            have hW8 := hW7.drawn hD8 (by omega)
            have hV8 := hV7.drawn hD8 (by omega)
            have hs8 := hD8.size
            have hX8 := hD7.trans hD8
            have hvw : ∀ x, vx.ownBlock = some x → M ≤ x ∧ x < U := fun x hx => ho7.1.lt x hx
            refine RL.y rfl (y_add rfl rfl (IntWalk.i64_in _ (by omega))) ?_
            refine RL.y rfl (y_lt rfl rfl) ?_
            refine RL.nil ?_
            refine Fin.next ?_
            refine CW.cond rfl rfl (fun hc4 => ?_) (fun hc4 => ?_)
            · with_reducible first | (replace hc4 := deNF hc4) | (replace hc4 := of_decide_eq_true hc4) | (replace hc4 := of_decide_eq_false hc4) | (replace hc4 := deNT hc4) | (replace hc4 := deNN hc4) | (replace hc4 := bnT hc4) | (replace hc4 := bnF hc4) | skip
              refine CW.skip ?_
              refine Fin.next ?_
              refine CW.block ?_
              refine CW.region ?_
              refine RL.y rfl (y_mov (by conv => lhs; whnf)) ?_
              refine RL.lit1 rfl sT22 rfl rfl (fun vz w9 hoz hE9 hbz => ?_)
              have hs9 := hE9.size
              have ho9 := ho8.ext hE9
              refine RL.app1 rfl rfl sT26 (by omega) ho9.1.ov (by omega) (by omega) rfl (slice_one hoz.sv) (fun _ => rfl) (fun u v10 w10 ho10 hg10 hn10 => ?_)
              have hs10 := hg10.size
              have hpu := ho9.push (r := [0]) (hoz.mono (by omega)) (fun x hx => by have := (hoz.lt x hx).1; omega) ho10 hg10 hn10
              refine RL.y rfl (y_asg (by conv => lhs; whnf)) ?_
              refine RL.nil ?_
              refine Fin.blockNormal ?_
              refine Fin.le ?_
              exact ⟨30 - (rx ++ [[0]]).length, by simp; omega, v10, _, rx ++ [[0]], _, rfl, ⟨rfl, rfl, rfl, rfl, trivial⟩, hpu, by simp; omega, (hR8.ext hE9).mod (grown_mod (B := M) (U := U) hg10 (fun k hk => hvw k hk)) (.inl (Nat.le_refl _)), (hW8.ext hE9).grown hg10 (fun e => hvn _ e rfl), (hV8.ext hE9).grown hg10 (fun e => by have := hvw _ e; omega), (hX8.ext hE9).grown hbw1 hg10 (fun k hk => by have := hvw _ hk; omega), by omega, (fun x hx => by rcases hn10 with h2 | ⟨c, h2, h3⟩; exact hvn x (h2 ▸ hx); (rw [h2] at hx; simp only [Option.some.injEq] at hx; omega))⟩
            · with_reducible first | (replace hc4 := deNF hc4) | (replace hc4 := of_decide_eq_true hc4) | (replace hc4 := of_decide_eq_false hc4) | (replace hc4 := deNT hc4) | (replace hc4 := deNN hc4) | (replace hc4 := bnT hc4) | (replace hc4 := bnF hc4) | skip
              refine CW.exit ?_
              refine Fin.thenExit ?_
              refine Fin.thenExit ?_
              refine Fin.blockHit ?_
              refine Fin.next ?_
              refine CW.seq ?_
              refine CW.region ?_
              refine RL.y rfl (y_fa fa33_0 rfl rfl) ?_
              refine RL.y rfl (y_loadp (ds := [vp, vd]) ag31 (eqw (hW8)) rfl rfl rfl) ?_
              refine RL.y rfl (y_mov (by conv => lhs; whnf)) ?_
              refine RL.y rfl (y_build bd33 rfl (fill_put (cs := [vp, vd]) rfl rfl (Nat.le_of_ble_eq_true rfl) (fill_one (slice_one ho8.1.sv) rfl rfl fill_nil))) ?_
              refine RL.stores ag33 (hV8) rfl rfl rfl rfl ((show ([vp, vd, vx] : List Value).all (·.oneCell') = true by simp only [List.all_cons, List.all_nil, Bool.and_true, Bool.and_eq_true] at hone2 ⊢; exact ⟨hone2.1, hone2.2, slice_one ho8.1.sv⟩)) (fun w11 hV11 hg11 => ?_)
              replace hV11 : VR w11 w.heap.size [vp, vd, vx] := hV11
              have hs11 := hg11.size
              have hM11 : Mod w.heap.size (w.heap.size + 1) w8 w11 := grown_mod hg11 (fun k hk => by simp only [Option.some.injEq] at hk; omega)
              have hD11 : Drawn w b w11 := (show Drawn w b w8 from ⟨hX8.1, (hE1.mod _ _).trans hX8.2⟩).grown hbw hg11 (fun k hk => by simp only [Option.some.injEq] at hk; omega)
              have hB11 := hR8.mod hM11 (by omega)
              have hT11 := (OwN.ru ⟨_, ho8⟩).mod hM11 (by omega)
              refine RL.nil ?_
              refine Fin.next ?_
              refine CW.ret ?_
              refine Fin.blockRet ?_
              refine Fin.thenRet ?_
              refine Fin.retc rfl ag33 rfl rfl (hV11) ?_
              exact ⟨_, rfl, ps, ds, rx, ⟨vp, vd, vx, rfl, hB11.wide (by omega) (by omega) (Nat.le_refl _), hT11.wide (by omega) (by omega) (Nat.le_refl _)⟩, ⟨by omega, by omega⟩, hD11⟩
        · with_reducible first | (replace hc3 := deNF hc3) | (replace hc3 := of_decide_eq_true hc3) | (replace hc3 := of_decide_eq_false hc3) | (replace hc3 := deNT hc3) | (replace hc3 := deNN hc3) | (replace hc3 := bnT hc3) | (replace hc3 := bnF hc3) | skip
          refine CW.seq ?_
          refine CW.region ?_
          refine RL.y rfl (y_eq rfl rfl) ?_
          refine RL.y rfl (y_asg (v := .bool _) rfl) ?_
          refine RL.nil ?_
          refine Fin.next ?_
          refine CW.cond rfl rfl (fun hc5 => ?_) (fun hc5 => ?_)
          · with_reducible first | (replace hc5 := deNF hc5) | (replace hc5 := of_decide_eq_true hc5) | (replace hc5 := of_decide_eq_false hc5) | (replace hc5 := deNT hc5) | (replace hc5 := deNN hc5) | (replace hc5 := bnT hc5) | (replace hc5 := bnF hc5) | skip
            refine CW.seq ?_
            refine CW.region ?_
            refine RL.y rfl (y_fa fa33_0 rfl rfl) ?_
            refine RL.y rfl (y_loadp (ds := [vp, vd]) ag31 (eqw (hW6)) rfl rfl rfl) ?_
            refine RL.y rfl (y_build bd33 rfl (fill_put (cs := [vp, vd]) rfl rfl (Nat.le_of_ble_eq_true rfl) fill_nil)) ?_
            refine RL.stores ag33 (hV6) rfl rfl rfl rfl ((show ([vp, vd, .slice none 0 0] : List Value).all (·.oneCell') = true by simp only [List.all_cons, List.all_nil, Bool.and_true, Bool.and_eq_true] at hone2 ⊢; exact ⟨hone2.1, hone2.2, rfl⟩)) (fun w11 hV11 hg11 => ?_)
            replace hV11 : VR w11 w.heap.size [vp, vd, .slice none 0 0] := hV11
            have hs11 := hg11.size
            have hM11 : Mod w.heap.size (w.heap.size + 1) w6 w11 := grown_mod hg11 (fun k hk => by simp only [Option.some.injEq] at hk; omega)
            have hD11 : Drawn w b w11 := (show Drawn w b w6 from ⟨hD6.1, (hE1.mod _ _).trans hD6.2⟩).grown hbw hg11 (fun k hk => by simp only [Option.some.injEq] at hk; omega)
            have hB11 := hR6.mod hM11 (by omega)
            refine RL.nil ?_
            refine Fin.next ?_
            refine CW.ret ?_
            refine Fin.blockRet ?_
            refine Fin.thenRet ?_
            refine Fin.retc rfl ag33 rfl rfl (hV11) ?_
            exact ⟨_, rfl, ps, ds, [], ⟨vp, vd, _, rfl, hB11.wide (by omega) (by omega) (Nat.le_refl _), RuN.nil w11 w.heap.size⟩, ⟨by omega, by simp⟩, hD11⟩
          · with_reducible first | (replace hc5 := deNF hc5) | (replace hc5 := of_decide_eq_true hc5) | (replace hc5 := of_decide_eq_false hc5) | (replace hc5 := deNT hc5) | (replace hc5 := deNN hc5) | (replace hc5 := bnT hc5) | (replace hc5 := bnF hc5) | skip
            have hQ6 : RuSS w6 M w2.heap.size vr rs := OwN.ru ⟨_, ho6⟩
            refine CW.skip ?_
            refine Fin.blockNormal ?_
            refine Fin.next ?_
            refine CW.seq ?_
            refine CW.region ?_
            refine RL.y rfl (y_loads ag33 rfl (eqw (hW6)) rfl) ?_
            refine RL.stores ag33 (hV6) rfl rfl rfl rfl (hone) (fun w11 hV11 hg11 => ?_)
            replace hV11 : VR w11 w.heap.size [vp, vd, vr] := hV11
            have hs11 := hg11.size
            have hM11 : Mod w.heap.size (w.heap.size + 1) w6 w11 := grown_mod hg11 (fun k hk => by simp only [Option.some.injEq] at hk; omega)
            have hD11 : Drawn w b w11 := (show Drawn w b w6 from ⟨hD6.1, (hE1.mod _ _).trans hD6.2⟩).grown hbw hg11 (fun k hk => by simp only [Option.some.injEq] at hk; omega)
            have hB11 := hR6.mod hM11 (by omega)
            have hT11 := hQ6.mod hM11 (by omega)
            refine RL.nil ?_
            refine Fin.next ?_
            refine CW.ret ?_
            refine Fin.retc rfl ag33 rfl rfl (hV11) ?_
            exact ⟨_, rfl, ps, ds, rs, ⟨vp, vd, vr, rfl, hB11.wide (by omega) (by omega) (Nat.le_refl _), hT11.wide (by omega) (by omega) (Nat.le_refl _)⟩, ⟨by omega, by omega⟩, hD11⟩

theorem l10DrawKey_any {w : World} {b : Nat} {v : Value} {ps : List Int} {ds : List Bool} {rs : List (List Int)} (hs : Src w b) (hp : RdP w v ps ds rs) (hl : rs.length ≤ 30) :
    Does Try.prog 106 #[.pointer (some ⟨b, 0, none⟩), v] w (fun r w' => ∃ x : Int, r = .int .i64 x ∧ Drawn w b w') := by
  have hbw := hs.lt
  obtain ⟨vp, vd, vr, rfl, hb, hr⟩ := hp
  obtain ⟨cs, hc⟩ := hr
  refine enter Try.func106 rfl 18 Try.ntmps106 rfl (by kernel_rfl) ?_
  refine CW.seq ?_
  refine CW.region ?_
  refine RL.box (cs := [vp, vd, vr]) rfl rfl rfl (fun w1 hV1 hE1 => ?_)
  have hX1 : Drawn w1 b w1.drew := (Drawn.refl (hs.ext hE1)).ext (Ext.drew _)
  refine RL.y rfl (y_asg rfl) ?_
  refine RL.nil ?_
  refine Fin.next ?_
  refine CW.seq ?_
  refine CW.any (Drawn w1 b) [5, 8, 10] mixed rfl (hX1) ?_
  refine AL.y 0 rfl rfl (by kernel_rfl) (by kernel_rfl) (by kernel_rfl) rfl (y_mov (by conv => lhs; whnf)) ?_
  refine AL.y 1 rfl rfl (by kernel_rfl) (by kernel_rfl) (by kernel_rfl) rfl (y_fa fa33_1 rfl rfl) ?_
  refine AL.y 2 rfl rfl (by kernel_rfl) (by kernel_rfl) (by kernel_rfl) rfl (y_loadv sc26 (fun _ hC => (hV1).drawn hC (by omega)) rfl rfl) ?_
  refine AL.y 3 rfl rfl (by kernel_rfl) (by kernel_rfl) (by kernel_rfl) rfl (y_len sT26 hc.1 hc.2.1 rfl) ?_
  refine AL.y 4 rfl rfl (by kernel_rfl) (by kernel_rfl) (by kernel_rfl) rfl (y_mov (by conv => lhs; whnf)) ?_
  refine AL.y 9 rfl rfl (by kernel_rfl) (by kernel_rfl) (by kernel_rfl) rfl (y_mov (by conv => lhs; whnf)) ?_
  refine AL.one (i := 5) (by kernel_rfl) rfl rfl ?_ 
  intro hr hJ
  refine RL.call rfl (l01Next_any hX1.1 (by omega)) ?_
  rintro r w2 ⟨x, rfl, ⟨hx0, hx1, -⟩, hD2⟩
  replace hx1 := hx1 (by omega)
  have hX2 := hX1.trans hD2
  refine RL.nil ?_
  refine Fin.al hr hJ (.inr hX2) ?_
  refine AL.y 6 rfl rfl (by kernel_rfl) (by kernel_rfl) (by kernel_rfl) rfl (y_quo rfl rfl (by omega) (IntWalk.i64_quo _ _ (by omega))) ?_
  refine AL.y 7 rfl rfl (by kernel_rfl) (by kernel_rfl) (by kernel_rfl) rfl (y_add rfl rfl (IntWalk.i64_in _ (by omega))) ?_
  refine AL.one (i := 8) (by kernel_rfl) rfl rfl ?_ 
  intro hr hJ
  refine RL.call rfl (l01Next_any hX2.1 (by omega)) ?_
  rintro r w3 ⟨y, rfl, ⟨hy0, hy1, hy2⟩, hD3⟩
  have hy3 : y ≤ 31 := by rcases Int.lt_or_le 1 (rs.length + x / 11 : Int) with h | h; exact (by have := hy1 (by omega); omega); exact (by have := hy2 h; omega)
  have hX3 := hX2.trans hD3
  refine RL.nil ?_
  refine Fin.al hr hJ (.inr hX3) ?_
  refine AL.one (i := 10) (by kernel_rfl) rfl rfl ?_ 
  intro hr hJ
  refine RL.call rfl (l01Next_any hX3.1 (by omega)) ?_
  rintro r w4 ⟨z, rfl, ⟨hz0, hz1, -⟩, hD4⟩
  replace hz1 := hz1 (by omega)
  have hX4 := hX3.trans hD4
  refine RL.nil ?_
  refine Fin.al hr hJ (.inr hX4) ?_
  refine AL.y 11 rfl rfl (by kernel_rfl) (by kernel_rfl) (by kernel_rfl) rfl (y_quo rfl rfl (by omega) (IntWalk.i64_quo _ _ (by omega))) ?_
  refine AL.y 12 rfl rfl (by kernel_rfl) (by kernel_rfl) (by kernel_rfl) rfl (y_sub rfl rfl (IntWalk.i64_in _ (by omega))) ?_
  refine AL.y 13 rfl rfl (by kernel_rfl) (by kernel_rfl) (by kernel_rfl) rfl (y_asg (v := .int _ _) rfl) ?_
  refine AL.nil (by kernel_rfl) ?_
  refine Fin.next ?_
  refine CW.ret ?_
  refine Fin.ret1 rfl (by conv => lhs; whnf) ?_
  exact ⟨_, rfl, _, rfl, ⟨hX4.1, (hE1.mod _ _).trans hX4.2⟩⟩

theorem DrawUnusedDoors_any {w : World} {v : Value} {l : List UInt8} (hv : SV w v (byts l)) :
    Does Try.prog 50 #[v] w (fun v' w' => ∃ ps ds rs, RuP w' w.heap.size w'.heap.size v' ps ds rs ∧ (ps.length ≤ 30 ∧ rs.length ≤ 30) ∧ Ext w w') := by
  refine enter Try.func50 rfl 6 Try.ntmps50 rfl (by kernel_rfl) ?_
  refine CW.seq ?_
  refine CW.region ?_
  refine RL.alloc rfl ze33 (fun w1 hV1 hE1 => ?_)
  have hc1 := hV1.lt
  refine RL.nil ?_
  refine Fin.next ?_
  refine CW.seq ?_
  refine CW.region ?_
  refine RL.y rfl (y_mov (by conv => lhs; whnf)) ?_
  refine RL.call rfl (l01From_any (hv.ext hE1)) ?_
  rintro r w2 ⟨rfl, hS2, hE2⟩
  refine RL.call rfl (l10Draw_any hS2) ?_
  rintro v1 w3 ⟨ps, ds, rs, hR3, hl, hD3⟩
  obtain ⟨vp, vd, vr, rfl, _⟩ := id hR3
  have hV3 := (hV1.ext hE2).drawn hD3 (by omega)
  have hE3 := hD3.own (hE1.trans hE2) hE1.size
  have hs2 := hS2.lt
  have hs3 := hD3.size
  refine RL.stores ag33 (hV3) rfl rfl rfl rfl (hR3.one) (fun w4 hV4 hg4 => ?_)
  replace hV4 : VR w4 w.heap.size [vp, vd, vr] := hV4
  have hs4 := hg4.size
  have hM4 : Mod w.heap.size (w.heap.size + 1) w3 w4 := grown_mod hg4 (fun k hk => by simp only [Option.some.injEq] at hk; omega)
  refine RL.nil ?_
  refine Fin.next ?_
  refine CW.ret ?_
  refine Fin.retc rfl ag33 rfl rfl (hV4) ?_
  exact ⟨_, rfl, ps, ds, rs, (hR3.mod hM4 (by omega)).wide (by omega) hs4 (Nat.le_refl _), hl, hE3.then_mod hM4 (Nat.le_refl _)⟩

theorem DrawAccessOf_any {w : World} {v : Value} {l : List UInt8} (hv : SV w v (byts l)) :
    Does Try.prog 55 #[v] w (fun v' w' => ∃ ps ds rs, RuP w' w.heap.size w'.heap.size v' ps ds rs ∧ (ps.length ≤ 30 ∧ rs.length ≤ 30) ∧ Ext w w') := by
  refine enter Try.func55 rfl 6 Try.ntmps55 rfl (by kernel_rfl) ?_
  refine CW.seq ?_
  refine CW.region ?_
  refine RL.alloc rfl ze33 (fun w1 hV1 hE1 => ?_)
  have hc1 := hV1.lt
  refine RL.nil ?_
  refine Fin.next ?_
  refine CW.seq ?_
  refine CW.region ?_
  refine RL.y rfl (y_mov (by conv => lhs; whnf)) ?_
  refine RL.call rfl (l01From_any (hv.ext hE1)) ?_
  rintro r w2 ⟨rfl, hS2, hE2⟩
  refine RL.call rfl (l10Draw_any hS2) ?_
  rintro v1 w3 ⟨ps, ds, rs, hR3, hl, hD3⟩
  obtain ⟨vp, vd, vr, rfl, _⟩ := id hR3
  have hV3 := (hV1.ext hE2).drawn hD3 (by omega)
  have hE3 := hD3.own (hE1.trans hE2) hE1.size
  have hs2 := hS2.lt
  have hs3 := hD3.size
  refine RL.stores ag33 (hV3) rfl rfl rfl rfl (hR3.one) (fun w4 hV4 hg4 => ?_)
  replace hV4 : VR w4 w.heap.size [vp, vd, vr] := hV4
  have hs4 := hg4.size
  have hM4 : Mod w.heap.size (w.heap.size + 1) w3 w4 := grown_mod hg4 (fun k hk => by simp only [Option.some.injEq] at hk; omega)
  refine RL.nil ?_
  refine Fin.next ?_
  refine CW.ret ?_
  refine Fin.retc rfl ag33 rfl rfl (hV4) ?_
  exact ⟨_, rfl, ps, ds, rs, (hR3.mod hM4 (by omega)).wide (by omega) hs4 (Nat.le_refl _), hl, hE3.then_mod hM4 (Nat.le_refl _)⟩

theorem DrawDoorsFor_any {w : World} {v : Value} {l : List UInt8} (hv : SV w v (byts l)) :
    Does Try.prog 57 #[v] w (fun r w' => ∃ v1 ps ds rs x, r = .tuple #[v1, .int .i64 x] ∧ RuP w' w.heap.size w'.heap.size v1 ps ds rs ∧ (ps.length ≤ 30 ∧ rs.length ≤ 30) ∧ Ext w w') := by
  refine enter Try.func57 rfl 14 Try.ntmps57 rfl (by kernel_rfl) ?_
  refine CW.seq ?_
  refine CW.region ?_
  refine RL.alloc rfl ze33 (fun w1 hV1 hE1 => ?_)
  have hc1 := hV1.lt
  refine RL.y rfl (y_asg rfl) ?_
  refine RL.nil ?_
  refine Fin.next ?_
  refine CW.seq ?_
  refine CW.region ?_
  refine RL.y rfl (y_mov (by conv => lhs; whnf)) ?_
  refine RL.call rfl (l01From_any (hv.ext hE1)) ?_
  rintro r w2 ⟨rfl, hS2, hE2⟩
  refine RL.y rfl (y_asg (by conv => lhs; whnf)) ?_
  refine RL.nil ?_
  refine Fin.next ?_
  refine CW.seq ?_
  refine CW.region ?_
  refine RL.y rfl (y_mov (by conv => lhs; whnf)) ?_
  refine RL.call rfl (l10Draw_any hS2) ?_
  rintro v1 w3 ⟨ps, ds, rs, hR3, hl, hD3⟩
  obtain ⟨vp, vd, vr, rfl, _⟩ := id hR3
  have hV3 := (hV1.ext hE2).drawn hD3 (by omega)
  have hE3 := hD3.own (hE1.trans hE2) hE1.size
  have hs2 := hS2.lt
  have hs3 := hD3.size
  refine RL.alloc rfl ze33 (fun w4 hW4 hE4 => ?_)
  refine RL.stores ag33 (hW4) rfl rfl rfl rfl (hR3.one) (fun w5 hW5 hg5 => ?_)
  replace hW5 : VR w5 w3.heap.size [vp, vd, vr] := hW5
  have hE35 : Ext w3 w5 := hE4.grown hg5 (fun b hb => by simp only [Option.some.injEq] at hb; omega)
  have hs5 := hE35.size
  have hV5 := hV3.ext hE35
  have hR5 := hR3.ext hE35
  obtain ⟨_, _, _, e5, hbb5, hrr5⟩ := id hR5
  obtain ⟨rfl, rfl, rfl⟩ : vp = _ ∧ vd = _ ∧ vr = _ := by simpa using e5
  have hX5 : Drawn w5 w1.heap.size w5.drew := (Drawn.refl (hD3.1.ext hE35)).ext (Ext.drew _)
  refine RL.nil ?_
  refine Fin.next ?_
  refine CW.seq ?_
  refine CW.any (Drawn w5 w1.heap.size) [3, 4, 5] mixed rfl (hX5) ?_
  refine AL.y 0 rfl rfl (by kernel_rfl) (by kernel_rfl) (by kernel_rfl) rfl (y_loads ag33 rfl (fun _ hC => (hW5).drawn hC (by omega)) rfl) ?_
  refine AL.y 1 rfl rfl (by kernel_rfl) (by kernel_rfl) (by kernel_rfl) rfl (y_mov (by conv => lhs; whnf)) ?_
  refine AL.y 2 rfl rfl (by kernel_rfl) (by kernel_rfl) (by kernel_rfl) rfl (y_loads ag33 rfl (fun _ hC => (hW5).drawn hC (by omega)) rfl) ?_
  refine AL.one (i := 3) (by kernel_rfl) rfl rfl ?_ 
  intro hr hJ
  refine RL.call rfl (l10DrawKey_any hX5.1 (hR5.ext (Ext.drew _)).rd hl.2) ?_
  rintro r w6 ⟨x, rfl, hD6⟩
  have hX6 := hX5.trans hD6
  refine RL.nil ?_
  refine Fin.al hr hJ (.inr hX6) ?_
  refine AL.one (i := 4) (by kernel_rfl) rfl rfl ?_ 
  intro hr hJ
  refine RL.stores ag33 ((hV5.drawn hX6 (by omega))) rfl rfl rfl rfl (hR3.one) (fun w7 hV7 hg7 => ?_)
  replace hV7 : VR w7 w.heap.size [vp, vd, vr] := hV7
  have hs7 := hg7.size
  have hs6 := hX6.size
  have hM7 : Mod w.heap.size (w.heap.size + 1) w6 w7 := grown_mod hg7 (fun k hk => by simp only [Option.some.injEq] at hk; omega)
  have hR7 := (hR5.mod hX6.2 (.inr (by omega))).mod hM7 (by omega)
  have hE7 : Ext w w7 := (hX6.own (hE3.trans hE35) (by omega)).then_mod hM7 (Nat.le_refl _)
  refine RL.nil ?_
  refine Fin.al hr hJ (by first | exact .inl (by kernel_rfl) | (refine .inr ?_; assumption)) ?_
  refine AL.one (i := 5) (by kernel_rfl) rfl rfl ?_ 
  intro hr hJ
  refine RL.y rfl (y_asg (v := .int _ _) rfl) ?_
  refine RL.nil ?_
  refine Fin.al hr hJ (by first | exact .inl (by kernel_rfl) | (refine .inr ?_; assumption)) ?_
  refine AL.nil (by kernel_rfl) ?_
  refine Fin.next ?_
  refine CW.ret ?_
  refine Fin.retct rfl ag33 rfl rfl (hV7) (by conv => lhs; whnf) ?_
  exact ⟨_, rfl, _, ps, ds, rs, x, rfl, hR7.wide (by omega) (by omega) (Nat.le_refl _), hl, hE7⟩

theorem DrawKeysFor_any {w : World} {v : Value} {l : List UInt8} (hv : SV w v (byts l)) :
    Does Try.prog 58 #[v] w (fun r w' => ∃ v1 ps ds rs x, r = .tuple #[v1, .int .i64 x] ∧ RuP w' w.heap.size w'.heap.size v1 ps ds rs ∧ (ps.length ≤ 30 ∧ rs.length ≤ 30) ∧ Ext w w') := by
  refine enter Try.func58 rfl 15 Try.ntmps58 rfl (by kernel_rfl) ?_
  refine CW.seq ?_
  refine CW.region ?_
  refine RL.alloc rfl ze33 (fun w1 hV1 hE1 => ?_)
  have hc1 := hV1.lt
  refine RL.y rfl (y_asg rfl) ?_
  refine RL.nil ?_
  refine Fin.next ?_
  refine CW.seq ?_
  refine CW.region ?_
  refine RL.y rfl (y_mov (by conv => lhs; whnf)) ?_
  refine RL.call rfl (l01From_any (hv.ext hE1)) ?_
  rintro r w2 ⟨rfl, hS2, hE2⟩
  refine RL.y rfl (y_asg (by conv => lhs; whnf)) ?_
  refine RL.nil ?_
  refine Fin.next ?_
  refine CW.seq ?_
  refine CW.region ?_
  refine RL.y rfl (y_mov (by conv => lhs; whnf)) ?_
  refine RL.call rfl (l10Draw_any hS2) ?_
  rintro v1 w3 ⟨ps, ds, rs, hR3, hl, hD3⟩
  obtain ⟨vp, vd, vr, rfl, _⟩ := id hR3
  have hV3 := (hV1.ext hE2).drawn hD3 (by omega)
  have hE3 := hD3.own (hE1.trans hE2) hE1.size
  have hs2 := hS2.lt
  have hs3 := hD3.size
  refine RL.alloc rfl ze33 (fun w4 hW4 hE4 => ?_)
  refine RL.stores ag33 (hW4) rfl rfl rfl rfl (hR3.one) (fun w5 hW5 hg5 => ?_)
  replace hW5 : VR w5 w3.heap.size [vp, vd, vr] := hW5
  have hE35 : Ext w3 w5 := hE4.grown hg5 (fun b hb => by simp only [Option.some.injEq] at hb; omega)
  have hs5 := hE35.size
  have hV5 := hV3.ext hE35
  have hR5 := hR3.ext hE35
  obtain ⟨_, _, _, e5, hbb5, hrr5⟩ := id hR5
  obtain ⟨rfl, rfl, rfl⟩ : vp = _ ∧ vd = _ ∧ vr = _ := by simpa using e5
  have hX5 : Drawn w5 w1.heap.size w5.drew := (Drawn.refl (hD3.1.ext hE35)).ext (Ext.drew _)
  refine RL.nil ?_
  refine Fin.next ?_
  refine CW.seq ?_
  refine CW.any (Drawn w5 w1.heap.size) [4, 5, 6] mixed rfl (hX5) ?_
  refine AL.y 0 rfl rfl (by kernel_rfl) (by kernel_rfl) (by kernel_rfl) rfl (y_loads ag33 rfl (fun _ hC => (hW5).drawn hC (by omega)) rfl) ?_
  refine AL.y 1 rfl rfl (by kernel_rfl) (by kernel_rfl) (by kernel_rfl) rfl (y_mov (by conv => lhs; whnf)) ?_
  refine AL.y 2 rfl rfl (by kernel_rfl) (by kernel_rfl) (by kernel_rfl) rfl (y_fa fa33_0 rfl rfl) ?_
  refine AL.y 3 rfl rfl (by kernel_rfl) (by kernel_rfl) (by kernel_rfl) rfl (y_loadp (ds := [vp, vd]) ag31 (fun _ hC => (hW5).drawn hC (by omega)) rfl rfl rfl) ?_
  refine AL.one (i := 4) (by kernel_rfl) rfl rfl ?_ 
  intro hr hJ
  refine RL.call rfl (l09DrawNode_any hX5.1 (hbb5.ext (Ext.drew _)).rd hl.1) ?_
  rintro r w6 ⟨x, rfl, hD6⟩
  have hX6 := hX5.trans hD6
  refine RL.nil ?_
  refine Fin.al hr hJ (.inr hX6) ?_
  refine AL.one (i := 5) (by kernel_rfl) rfl rfl ?_ 
  intro hr hJ
  refine RL.stores ag33 ((hV5.drawn hX6 (by omega))) rfl rfl rfl rfl (hR3.one) (fun w7 hV7 hg7 => ?_)
  replace hV7 : VR w7 w.heap.size [vp, vd, vr] := hV7
  have hs7 := hg7.size
  have hs6 := hX6.size
  have hM7 : Mod w.heap.size (w.heap.size + 1) w6 w7 := grown_mod hg7 (fun k hk => by simp only [Option.some.injEq] at hk; omega)
  have hR7 := (hR5.mod hX6.2 (.inr (by omega))).mod hM7 (by omega)
  have hE7 : Ext w w7 := (hX6.own (hE3.trans hE35) (by omega)).then_mod hM7 (Nat.le_refl _)
  refine RL.nil ?_
  refine Fin.al hr hJ (by first | exact .inl (by kernel_rfl) | (refine .inr ?_; assumption)) ?_
  refine AL.one (i := 6) (by kernel_rfl) rfl rfl ?_ 
  intro hr hJ
  refine RL.y rfl (y_asg (v := .int _ _) rfl) ?_
  refine RL.nil ?_
  refine Fin.al hr hJ (by first | exact .inl (by kernel_rfl) | (refine .inr ?_; assumption)) ?_
  refine AL.nil (by kernel_rfl) ?_
  refine Fin.next ?_
  refine CW.ret ?_
  refine Fin.retct rfl ag33 rfl rfl (hV7) (by conv => lhs; whnf) ?_
  exact ⟨_, rfl, _, ps, ds, rs, x, rfl, hR7.wide (by omega) (by omega) (Nat.le_refl _), hl, hE7⟩

theorem DrawShortRights_any {w : World} {v : Value} {l : List UInt8} (hv : SV w v (byts l)) :
    Does Try.prog 46 #[v] w (fun r w' => ∃ v1 ps ds rs x, r = .tuple #[v1, .int .i64 x] ∧ RuP w' w.heap.size w'.heap.size v1 ps ds rs ∧ (ps.length ≤ 30 ∧ rs.length ≤ 30) ∧ Ext w w') := by
  refine enter Try.func46 rfl 8 Try.ntmps46 rfl (by kernel_rfl) ?_
  refine CW.seq ?_
  refine CW.region ?_
  refine RL.alloc rfl ze33 (fun w1 hV1 hE1 => ?_)
  have hc1 := hV1.lt
  refine RL.y rfl (y_asg rfl) ?_
  refine RL.nil ?_
  refine Fin.next ?_
  refine CW.seq ?_
  refine CW.region ?_
  refine RL.y rfl (y_mov (by conv => lhs; whnf)) ?_
  refine RL.call rfl (DrawDoorsFor_any (hv.ext hE1)) ?_
  rintro r w3 ⟨v1, ps, ds, rs, x, rfl, hR3, hl, hE3⟩
  obtain ⟨vp, vd, vr, rfl, _⟩ := id hR3
  have hV3 := hV1.ext hE3
  have hs3 := hE3.size
  refine RL.y rfl (y_ext0 rfl) ?_
  refine RL.y rfl (y_ext1 rfl) ?_
  refine RL.stores ag33 (hV3) rfl rfl rfl rfl (hR3.one) (fun w4 hV4 hg4 => ?_)
  replace hV4 : VR w4 w.heap.size [vp, vd, vr] := hV4
  have hs4 := hg4.size
  have hM4 : Mod w.heap.size (w.heap.size + 1) w3 w4 := grown_mod hg4 (fun k hk => by simp only [Option.some.injEq] at hk; omega)
  refine RL.y rfl (y_asg (v := .int _ _) rfl) ?_
  refine RL.nil ?_
  refine Fin.next ?_
  refine CW.ret ?_
  refine Fin.retct rfl ag33 rfl rfl (hV4) (by conv => lhs; whnf) ?_
  exact ⟨_, rfl, _, ps, ds, rs, x, rfl, (hR3.mod hM4 (by omega)).wide (by omega) hs4 (Nat.le_refl _), hl, (hE1.trans hE3).then_mod hM4 (Nat.le_refl _)⟩

theorem DrawLeastRights_any {w : World} {v : Value} {l : List UInt8} (hv : SV w v (byts l)) :
    Does Try.prog 47 #[v] w (fun r w' => ∃ v1 ps ds rs x, r = .tuple #[v1, .int .i64 x] ∧ RuP w' w.heap.size w'.heap.size v1 ps ds rs ∧ (ps.length ≤ 30 ∧ rs.length ≤ 30) ∧ Ext w w') := by
  refine enter Try.func47 rfl 8 Try.ntmps47 rfl (by kernel_rfl) ?_
  refine CW.seq ?_
  refine CW.region ?_
  refine RL.alloc rfl ze33 (fun w1 hV1 hE1 => ?_)
  have hc1 := hV1.lt
  refine RL.y rfl (y_asg rfl) ?_
  refine RL.nil ?_
  refine Fin.next ?_
  refine CW.seq ?_
  refine CW.region ?_
  refine RL.y rfl (y_mov (by conv => lhs; whnf)) ?_
  refine RL.call rfl (DrawDoorsFor_any (hv.ext hE1)) ?_
  rintro r w3 ⟨v1, ps, ds, rs, x, rfl, hR3, hl, hE3⟩
  obtain ⟨vp, vd, vr, rfl, _⟩ := id hR3
  have hV3 := hV1.ext hE3
  have hs3 := hE3.size
  refine RL.y rfl (y_ext0 rfl) ?_
  refine RL.y rfl (y_ext1 rfl) ?_
  refine RL.stores ag33 (hV3) rfl rfl rfl rfl (hR3.one) (fun w4 hV4 hg4 => ?_)
  replace hV4 : VR w4 w.heap.size [vp, vd, vr] := hV4
  have hs4 := hg4.size
  have hM4 : Mod w.heap.size (w.heap.size + 1) w3 w4 := grown_mod hg4 (fun k hk => by simp only [Option.some.injEq] at hk; omega)
  refine RL.y rfl (y_asg (v := .int _ _) rfl) ?_
  refine RL.nil ?_
  refine Fin.next ?_
  refine CW.ret ?_
  refine Fin.retct rfl ag33 rfl rfl (hV4) (by conv => lhs; whnf) ?_
  exact ⟨_, rfl, _, ps, ds, rs, x, rfl, (hR3.mod hM4 (by omega)).wide (by omega) hs4 (Nat.le_refl _), hl, (hE1.trans hE3).then_mod hM4 (Nat.le_refl _)⟩

theorem DrawMayEnter_any {w : World} {v : Value} {l : List UInt8} (hv : SV w v (byts l)) :
    Does Try.prog 56 #[v] w (fun r w' => ∃ v1 ps ds rs x y, r = .tuple #[v1, .int .i64 x, .int .i64 y] ∧ RuP w' w.heap.size w'.heap.size v1 ps ds rs ∧ (ps.length ≤ 30 ∧ rs.length ≤ 30) ∧ Ext w w') := by
  refine enter Try.func56 rfl 21 Try.ntmps56 rfl (by kernel_rfl) ?_
  refine CW.seq ?_
  refine CW.region ?_
  refine RL.alloc rfl ze33 (fun w1 hV1 hE1 => ?_)
  have hc1 := hV1.lt
  refine RL.y rfl (y_asg rfl) ?_
  refine RL.y rfl (y_asg rfl) ?_
  refine RL.nil ?_
  refine Fin.next ?_
  refine CW.seq ?_
  refine CW.region ?_
  refine RL.y rfl (y_mov (by conv => lhs; whnf)) ?_
  refine RL.call rfl (l01From_any (hv.ext hE1)) ?_
  rintro r w2 ⟨rfl, hS2, hE2⟩
  refine RL.y rfl (y_asg (by conv => lhs; whnf)) ?_
  refine RL.nil ?_
  refine Fin.next ?_
  refine CW.seq ?_
  refine CW.region ?_
  refine RL.y rfl (y_mov (by conv => lhs; whnf)) ?_
  refine RL.call rfl (l10Draw_any hS2) ?_
  rintro v1 w3 ⟨ps, ds, rs, hR3, hl, hD3⟩
  obtain ⟨vp, vd, vr, rfl, _⟩ := id hR3
  have hV3 := (hV1.ext hE2).drawn hD3 (by omega)
  have hE3 := hD3.own (hE1.trans hE2) hE1.size
  have hs2 := hS2.lt
  have hs3 := hD3.size
  refine RL.alloc rfl ze33 (fun w4 hW4 hE4 => ?_)
  refine RL.stores ag33 (hW4) rfl rfl rfl rfl (hR3.one) (fun w5 hW5 hg5 => ?_)
  replace hW5 : VR w5 w3.heap.size [vp, vd, vr] := hW5
  have hE35 : Ext w3 w5 := hE4.grown hg5 (fun b hb => by simp only [Option.some.injEq] at hb; omega)
  have hs5 := hE35.size
  have hV5 := hV3.ext hE35
  have hR5 := hR3.ext hE35
  obtain ⟨_, _, _, e5, hbb5, hrr5⟩ := id hR5
  obtain ⟨rfl, rfl, rfl⟩ : vp = _ ∧ vd = _ ∧ vr = _ := by simpa using e5
  refine RL.nil ?_
  refine Fin.next ?_
  refine CW.seq ?_
  refine CW.region ?_
  refine RL.y rfl (y_mov (by conv => lhs; whnf)) ?_
  refine RL.y rfl (y_loads ag33 rfl (eqw (hW5)) rfl) ?_
  refine RL.call rfl (l10DrawKey_any (hD3.1.ext hE35) hR5.rd hl.2) ?_
  rintro r wk ⟨x, rfl, hDk⟩
  have hX5 : Drawn w5 w1.heap.size wk.drew := hDk.ext (Ext.drew _)
  refine RL.y rfl (y_asg (v := .int _ _) rfl) ?_
  refine RL.nil ?_
  refine Fin.next ?_
  refine CW.seq ?_
  refine CW.any (fun w' => VR w' w3.heap.size [vp, vd, vr]) [5, 6, 7, 8] mixed rfl (hW5.drawn hX5 (by omega)) ?_
  refine AL.y 0 rfl rfl (by kernel_rfl) (by kernel_rfl) (by kernel_rfl) rfl (y_loads ag33 rfl (fun _ hC => hC) rfl) ?_
  refine AL.y 1 rfl rfl (by kernel_rfl) (by kernel_rfl) (by kernel_rfl) rfl (y_mov (v := .int _ _) rfl) ?_
  refine AL.y 2 rfl rfl (by kernel_rfl) (by kernel_rfl) (by kernel_rfl) rfl (y_mov (by conv => lhs; whnf)) ?_
  refine AL.y 3 rfl rfl (by kernel_rfl) (by kernel_rfl) (by kernel_rfl) rfl (y_fa fa33_0 rfl rfl) ?_
  refine AL.y 4 rfl rfl (by kernel_rfl) (by kernel_rfl) (by kernel_rfl) rfl (y_loadp (ds := [vp, vd]) ag31 (fun _ hC => hC) rfl rfl rfl) ?_
  refine AL.one (i := 5) (by kernel_rfl) rfl rfl ?_ 
  intro hr hJ
  refine RL.call rfl (l09DrawNode_any hX5.1 (hbb5.mod hX5.2 (.inr (by omega))).rd hl.1) ?_
  rintro r w6 ⟨y, rfl, hD6⟩
  have hX6 := hX5.trans hD6
  refine RL.nil ?_
  refine Fin.al hr hJ (.inr (hW5.drawn hX6 (by omega))) ?_
  refine AL.one (i := 6) (by kernel_rfl) rfl rfl ?_ 
  intro hr hJ
  refine RL.stores ag33 ((hV5.drawn hX6 (by omega))) rfl rfl rfl rfl (hR3.one) (fun w7 hV7 hg7 => ?_)
  replace hV7 : VR w7 w.heap.size [vp, vd, vr] := hV7
  have hs7 := hg7.size
  have hs6 := hX6.size
  have hM7 : Mod w.heap.size (w.heap.size + 1) w6 w7 := grown_mod hg7 (fun k hk => by simp only [Option.some.injEq] at hk; omega)
  have hR7 := (hR5.mod hX6.2 (.inr (by omega))).mod hM7 (by omega)
  have hE7 : Ext w w7 := (hX6.own (hE3.trans hE35) (by omega)).then_mod hM7 (Nat.le_refl _)
  have hW7 : VR w7 w3.heap.size [vp, vd, vr] := (hW5.drawn hX6 (by omega)).mod hM7 (by omega)
  refine RL.nil ?_
  refine Fin.al hr hJ (.inr hW7) ?_
  refine AL.one (i := 7) (by kernel_rfl) rfl rfl ?_ 
  intro hr hJ
  refine RL.y rfl (y_asg (v := .int _ _) rfl) ?_
  refine RL.nil ?_
  refine Fin.al hr hJ (.inr hW7) ?_
  refine AL.one (i := 8) (by kernel_rfl) rfl rfl ?_ 
  intro hr hJ
  refine RL.y rfl (y_asg (v := .int _ _) rfl) ?_
  refine RL.nil ?_
  refine Fin.al hr hJ (.inr hW7) ?_
  refine AL.nil (by kernel_rfl) ?_
  refine Fin.next ?_
  refine CW.ret ?_
  refine Fin.retctt rfl ag33 rfl rfl (hV7) (by conv => lhs; whnf) (by conv => lhs; whnf) ?_
  exact ⟨_, rfl, _, ps, ds, rs, x, y, rfl, hR7.wide (by omega) (by omega) (Nat.le_refl _), hl, hE7⟩

theorem DrawAddKey_any {w : World} {v : Value} {l : List UInt8} (hv : SV w v (byts l)) :
    Does Try.prog 49 #[v] w (fun r w' => ∃ v1 v2 ps ds rs ns, r = .tuple #[v1, v2] ∧ RuP w' w.heap.size w'.heap.size v1 ps ds rs ∧ OV w' w.heap.size 2 v2 (ints ns) ∧ (ps.length ≤ 30 ∧ rs.length ≤ 30) ∧ ns.length ≤ 31 ∧ Ext w w') := by
  refine enter Try.func49 rfl 30 Try.ntmps49 rfl (by kernel_rfl) ?_
  refine CW.seq ?_
  refine CW.region ?_
  refine RL.alloc rfl ze33 (fun w1 hV1 hE1 => ?_)
  have hc1 := hV1.lt
  refine RL.y rfl (y_asg rfl) ?_
  refine RL.nil ?_
  refine Fin.next ?_
  refine CW.seq ?_
  refine CW.region ?_
  refine RL.y rfl (y_mov (by conv => lhs; whnf)) ?_
  refine RL.call rfl (l01From_any (hv.ext hE1)) ?_
  rintro r w2 ⟨rfl, hS2, hE2⟩
  refine RL.y rfl (y_asg (by conv => lhs; whnf)) ?_
  refine RL.nil ?_
  refine Fin.next ?_
  refine CW.seq ?_
  refine CW.region ?_
  refine RL.y rfl (y_mov (by conv => lhs; whnf)) ?_
  refine RL.call rfl (l10Draw_any hS2) ?_
  rintro v1 w3 ⟨ps, ds, rs, hR3, hl, hD3⟩
  obtain ⟨vp, vd, vr, rfl, _⟩ := id hR3
  have hV3 := (hV1.ext hE2).drawn hD3 (by omega)
  have hE3 := hD3.own (hE1.trans hE2) hE1.size
  have hs2 := hS2.lt
  have hs3 := hD3.size
  refine RL.alloc rfl ze33 (fun w4 hW4 hE4 => ?_)
  refine RL.stores ag33 (hW4) rfl rfl rfl rfl (hR3.one) (fun w5 hW5 hg5 => ?_)
  replace hW5 : VR w5 w3.heap.size [vp, vd, vr] := hW5
  have hE35 : Ext w3 w5 := hE4.grown hg5 (fun b hb => by simp only [Option.some.injEq] at hb; omega)
  have hs5 := hE35.size
  have hV5 := hV3.ext hE35
  have hR5 := hR3.ext hE35
  obtain ⟨_, _, _, e5, hbb5, hrr5⟩ := id hR5
  obtain ⟨rfl, rfl, rfl⟩ : vp = _ ∧ vd = _ ∧ vr = _ := by simpa using e5
  obtain ⟨hpp5, hdd5⟩ : SI w5 vp ps ∧ SB w5 vd ds := by obtain ⟨a, c, e, h1, h2, _⟩ := hbb5; obtain ⟨rfl, rfl⟩ : vp = a ∧ vd = c := (by simpa using e); exact ⟨h1, h2⟩
  have hXz : Drawn w5 w1.heap.size w5 := Drawn.refl (hD3.1.ext hE35)
  refine RL.nil ?_
  refine Fin.next ?_
  refine CW.seq ?_
  refine CW.seq ?_
  refine CW.region ?_
  refine RL.y rfl (y_fa fa33_0 rfl rfl) ?_
  refine RL.y rfl (y_fa fa31_0 rfl rfl) ?_
  refine RL.y rfl (y_loadv sc22 (eqw (hW5)) rfl rfl) ?_
  refine RL.y rfl (y_len sT22 hpp5 (ints_len _) rfl) ?_
  refine RL.y rfl (y_eq rfl rfl) ?_
  refine RL.y rfl (y_mov (v := .bool _) rfl) ?_
  refine RL.split (t := 15) rfl rfl (fun ha => ?_) (fun ha => ?_)
  · with_reducible first | (replace ha := deNF ha) | (replace ha := of_decide_eq_true ha) | (replace ha := of_decide_eq_false ha) | (replace ha := deNT ha) | (replace ha := deNN ha) | (replace ha := bnT ha) | (replace ha := bnF ha) | skip
    have hXd := hXz.ext (Ext.drew _)
    refine RL.pass (t := 15) rfl rfl rfl rfl ?_
    refine RL.pass (t := 15) rfl rfl rfl rfl ?_
    refine RL.pass (t := 15) rfl rfl rfl rfl ?_
    refine RL.y rfl (y_pickT (v := .bool _) rfl rfl) ?_
    refine RL.nil ?_
    refine Fin.next ?_
    refine CW.condT rfl rfl ?_
    refine CW.seq ?_
    refine CW.any (Drawn w5 w1.heap.size) [2, 3, 4, 5, 6] mixed rfl (hXd) ?_
    refine AL.y 0 rfl rfl (by kernel_rfl) (by kernel_rfl) (by kernel_rfl) rfl (y_loads ag33 rfl (fun _ hC => (hW5).drawn hC (by omega)) rfl) ?_
    refine AL.y 1 rfl rfl (by kernel_rfl) (by kernel_rfl) (by kernel_rfl) rfl (y_mov (by conv => lhs; whnf)) ?_
    refine AL.one (i := 2) (by kernel_rfl) rfl rfl ?_ 
    intro hr hJ
    refine RL.lits [.int .i64 (-1), .int .i64 0, .int .i64 30] rfl sT22 rfl (by omega) (by simp [Value.oneCell']) rfl (fun vq wq hoq hEq hbq => ?_)
    have hXq := hXd.ext hEq
    refine RL.nil ?_
    refine Fin.al hr hJ (.inr hXq) ?_
    refine AL.one (i := 3) (by kernel_rfl) rfl rfl ?_ 
    intro hr hJ
    refine RL.call rfl (l01Pick_any (xs := [-1, 0, 30]) hXq.1 hoq.sv (by simp) (fun x hx => by have := (hoq.lt x hx).1; have := hXd.size; omega)) ?_
    rintro r wp ⟨z, rfl, -, hDp⟩
    have hXp := hXq.trans hDp
    refine RL.nil ?_
    refine Fin.al hr hJ (.inr hXp) ?_
    refine AL.two (i := 4) (j := 5) (by kernel_rfl) rfl rfl rfl rfl ?_ ?_ 
    · intro hr hJ
      refine RL.lit2 rfl sT22 rfl rfl rfl rfl (fun vz wz hoz hEz hbz => ?_)
      have hX6 := hXp.ext hEz
      have hsp := hXp.size
      refine RL.nil ?_
      refine Fin.al hr hJ (.inr hX6) ?_
      refine AL.one (i := 5) (by kernel_rfl) rfl rfl ?_ 
      intro hr hJ
      refine RL.stores ag33 ((hV5.drawn hX6 (by omega))) rfl rfl rfl rfl (hR3.one) (fun w7 hV7 hg7 => ?_)
      replace hV7 : VR w7 w.heap.size [vp, vd, vr] := hV7
      have hs7 := hg7.size
      have hs6 := hX6.size
      have hM7 : Mod w.heap.size (w.heap.size + 1) wz w7 := grown_mod hg7 (fun k hk => by simp only [Option.some.injEq] at hk; omega)
      have hR7 := (hR5.mod hX6.2 (.inr (by omega))).mod hM7 (by omega)
      have hE7 : Ext w w7 := (hX6.own (hE3.trans hE35) (by omega)).then_mod hM7 (Nat.le_refl _)
      have ho7 := hoz.grown hg7 (.inl (by rw [hbz]; intro e; simp only [Option.some.injEq] at e; omega))
      refine RL.nil ?_
      refine Fin.al hr hJ (by first | exact .inl (by kernel_rfl) | (refine .inr ?_; assumption)) ?_
      refine AL.one (i := 6) (by kernel_rfl) rfl rfl ?_ 
      intro hr hJ
      refine RL.y rfl (y_asg (by conv => lhs; whnf)) ?_
      refine RL.nil ?_
      refine Fin.al hr hJ (by first | exact .inl (by kernel_rfl) | (refine .inr ?_; assumption)) ?_
      refine AL.nil (by kernel_rfl) ?_
      refine Fin.next ?_
      refine CW.ret ?_
      refine Fin.thenRet ?_
      refine Fin.retct rfl ag33 rfl rfl (hV7) (by conv => lhs; whnf) ?_
      exact ⟨_, rfl, _, _, ps, ds, rs, [z, 0], rfl, hR7.wide (by omega) (by omega) (Nat.le_refl _), ho7.mono (by omega), hl, by simp, hE7⟩
    · intro hr hJ
      refine RL.stores ag33 ((hV5.drawn hXp (by omega))) rfl rfl rfl rfl (hR3.one) (fun w7 hV7 hg7 => ?_)
      replace hV7 : VR w7 w.heap.size [vp, vd, vr] := hV7
      have hs7 := hg7.size
      have hs6 := hXp.size
      have hM7 : Mod w.heap.size (w.heap.size + 1) wp w7 := grown_mod hg7 (fun k hk => by simp only [Option.some.injEq] at hk; omega)
      have hR7 := (hR5.mod hXp.2 (.inr (by omega))).mod hM7 (by omega)
      have hE7 : Ext w w7 := (hXp.own (hE3.trans hE35) (by omega)).then_mod hM7 (Nat.le_refl _)
      refine RL.nil ?_
      refine Fin.al hr hJ (by first | exact .inl (by kernel_rfl) | (refine .inr ?_; assumption)) ?_
      refine AL.one (i := 4) (by kernel_rfl) rfl rfl ?_ 
      intro hr hJ
      refine RL.lit2 rfl sT22 rfl rfl rfl rfl (fun vz wz hoz hEz hbz => ?_)
      have hsz := hEz.size
      refine RL.nil ?_
      refine Fin.alp hr hJ (.inr (fun hC => hC.ext hEz)) ?_
      refine AL.one (i := 6) (by kernel_rfl) rfl rfl ?_ 
      intro hr hJ
      refine RL.y rfl (y_asg (by conv => lhs; whnf)) ?_
      refine RL.nil ?_
      refine Fin.al hr hJ (by first | exact .inl (by kernel_rfl) | (refine .inr ?_; assumption)) ?_
      refine AL.nil (by kernel_rfl) ?_
      refine Fin.next ?_
      refine CW.ret ?_
      refine Fin.thenRet ?_
      refine Fin.retct rfl ag33 rfl rfl (hV7.ext hEz) (by conv => lhs; whnf) ?_
      exact ⟨_, rfl, _, _, ps, ds, rs, [z, 0], rfl, (hR7.ext hEz).wide (by omega) (by omega) (Nat.le_refl _), hoz.mono (by omega), hl, by simp, hE7.trans hEz⟩
  · with_reducible first | (replace ha := deNF ha) | (replace ha := of_decide_eq_true ha) | (replace ha := of_decide_eq_false ha) | (replace ha := deNT ha) | (replace ha := deNN ha) | (replace ha := bnT ha) | (replace ha := bnF ha) | skip
    refine RL.take (t := 15) rfl rfl rfl ?_
    refine RL.y rfl (y_mov (by conv => lhs; whnf)) ?_
    refine RL.take (t := 15) rfl rfl rfl ?_
    refine RL.call rfl (l01Next_any hXz.1 (by omega)) ?_
    rintro r wk ⟨y, rfl, -, hDk⟩
    have hXk := hXz.trans hDk
    refine RL.take (t := 15) rfl rfl rfl ?_
    refine RL.y rfl (y_eq rfl rfl) ?_
    refine RL.y rfl (y_pickF (v := .bool _) rfl rfl) ?_
    refine RL.nil ?_
    refine Fin.next ?_
    refine CW.cond rfl rfl (fun hb2 => ?_) (fun hb2 => ?_)
    · with_reducible first | (replace hb2 := deNF hb2) | (replace hb2 := of_decide_eq_true hb2) | (replace hb2 := of_decide_eq_false hb2) | (replace hb2 := deNT hb2) | (replace hb2 := deNN hb2) | (replace hb2 := bnT hb2) | (replace hb2 := bnF hb2) | skip
      have hXd := hXk.ext (Ext.drew _)
      refine CW.seq ?_
      refine CW.any (Drawn w5 w1.heap.size) [2, 3, 4, 5, 6] mixed rfl (hXd) ?_
      refine AL.y 0 rfl rfl (by kernel_rfl) (by kernel_rfl) (by kernel_rfl) rfl (y_loads ag33 rfl (fun _ hC => (hW5).drawn hC (by omega)) rfl) ?_
      refine AL.y 1 rfl rfl (by kernel_rfl) (by kernel_rfl) (by kernel_rfl) rfl (y_mov (by conv => lhs; whnf)) ?_
      refine AL.one (i := 2) (by kernel_rfl) rfl rfl ?_ 
      intro hr hJ
      refine RL.lits [.int .i64 (-1), .int .i64 0, .int .i64 30] rfl sT22 rfl (by omega) (by simp [Value.oneCell']) rfl (fun vq wq hoq hEq hbq => ?_)
      have hXq := hXd.ext hEq
      refine RL.nil ?_
      refine Fin.al hr hJ (.inr hXq) ?_
      refine AL.one (i := 3) (by kernel_rfl) rfl rfl ?_ 
      intro hr hJ
      refine RL.call rfl (l01Pick_any (xs := [-1, 0, 30]) hXq.1 hoq.sv (by simp) (fun x hx => by have := (hoq.lt x hx).1; have := hXd.size; omega)) ?_
      rintro r wp ⟨z, rfl, -, hDp⟩
      have hXp := hXq.trans hDp
      refine RL.nil ?_
      refine Fin.al hr hJ (.inr hXp) ?_
      refine AL.two (i := 4) (j := 5) (by kernel_rfl) rfl rfl rfl rfl ?_ ?_ 
      · intro hr hJ
        refine RL.lit2 rfl sT22 rfl rfl rfl rfl (fun vz wz hoz hEz hbz => ?_)
        have hX6 := hXp.ext hEz
        have hsp := hXp.size
        refine RL.nil ?_
        refine Fin.al hr hJ (.inr hX6) ?_
        refine AL.one (i := 5) (by kernel_rfl) rfl rfl ?_ 
        intro hr hJ
        refine RL.stores ag33 ((hV5.drawn hX6 (by omega))) rfl rfl rfl rfl (hR3.one) (fun w7 hV7 hg7 => ?_)
        replace hV7 : VR w7 w.heap.size [vp, vd, vr] := hV7
        have hs7 := hg7.size
        have hs6 := hX6.size
        have hM7 : Mod w.heap.size (w.heap.size + 1) wz w7 := grown_mod hg7 (fun k hk => by simp only [Option.some.injEq] at hk; omega)
        have hR7 := (hR5.mod hX6.2 (.inr (by omega))).mod hM7 (by omega)
        have hE7 : Ext w w7 := (hX6.own (hE3.trans hE35) (by omega)).then_mod hM7 (Nat.le_refl _)
        have ho7 := hoz.grown hg7 (.inl (by rw [hbz]; intro e; simp only [Option.some.injEq] at e; omega))
        refine RL.nil ?_
        refine Fin.al hr hJ (by first | exact .inl (by kernel_rfl) | (refine .inr ?_; assumption)) ?_
        refine AL.one (i := 6) (by kernel_rfl) rfl rfl ?_ 
        intro hr hJ
        refine RL.y rfl (y_asg (by conv => lhs; whnf)) ?_
        refine RL.nil ?_
        refine Fin.al hr hJ (by first | exact .inl (by kernel_rfl) | (refine .inr ?_; assumption)) ?_
        refine AL.nil (by kernel_rfl) ?_
        refine Fin.next ?_
        refine CW.ret ?_
        refine Fin.thenRet ?_
        refine Fin.retct rfl ag33 rfl rfl (hV7) (by conv => lhs; whnf) ?_
        exact ⟨_, rfl, _, _, ps, ds, rs, [z, 0], rfl, hR7.wide (by omega) (by omega) (Nat.le_refl _), ho7.mono (by omega), hl, by simp, hE7⟩
      · intro hr hJ
        refine RL.stores ag33 ((hV5.drawn hXp (by omega))) rfl rfl rfl rfl (hR3.one) (fun w7 hV7 hg7 => ?_)
        replace hV7 : VR w7 w.heap.size [vp, vd, vr] := hV7
        have hs7 := hg7.size
        have hs6 := hXp.size
        have hM7 : Mod w.heap.size (w.heap.size + 1) wp w7 := grown_mod hg7 (fun k hk => by simp only [Option.some.injEq] at hk; omega)
        have hR7 := (hR5.mod hXp.2 (.inr (by omega))).mod hM7 (by omega)
        have hE7 : Ext w w7 := (hXp.own (hE3.trans hE35) (by omega)).then_mod hM7 (Nat.le_refl _)
        refine RL.nil ?_
        refine Fin.al hr hJ (by first | exact .inl (by kernel_rfl) | (refine .inr ?_; assumption)) ?_
        refine AL.one (i := 4) (by kernel_rfl) rfl rfl ?_ 
        intro hr hJ
        refine RL.lit2 rfl sT22 rfl rfl rfl rfl (fun vz wz hoz hEz hbz => ?_)
        have hsz := hEz.size
        refine RL.nil ?_
        refine Fin.alp hr hJ (.inr (fun hC => hC.ext hEz)) ?_
        refine AL.one (i := 6) (by kernel_rfl) rfl rfl ?_ 
        intro hr hJ
        refine RL.y rfl (y_asg (by conv => lhs; whnf)) ?_
        refine RL.nil ?_
        refine Fin.al hr hJ (by first | exact .inl (by kernel_rfl) | (refine .inr ?_; assumption)) ?_
        refine AL.nil (by kernel_rfl) ?_
        refine Fin.next ?_
        refine CW.ret ?_
        refine Fin.thenRet ?_
        refine Fin.retct rfl ag33 rfl rfl (hV7.ext hEz) (by conv => lhs; whnf) ?_
        exact ⟨_, rfl, _, _, ps, ds, rs, [z, 0], rfl, (hR7.ext hEz).wide (by omega) (by omega) (Nat.le_refl _), hoz.mono (by omega), hl, by simp, hE7.trans hEz⟩
    · with_reducible first | (replace hb2 := deNF hb2) | (replace hb2 := of_decide_eq_true hb2) | (replace hb2 := of_decide_eq_false hb2) | (replace hb2 := deNT hb2) | (replace hb2 := deNN hb2) | (replace hb2 := bnT hb2) | (replace hb2 := bnF hb2) | skip
      have hXd := hXk.ext (Ext.drew _)
      refine CW.skip ?_
      refine Fin.next ?_
      refine CW.seq ?_
      refine CW.any (Drawn w5 w1.heap.size) [4, 5, 6] mixed rfl (hXd) ?_
      refine AL.y 0 rfl rfl (by kernel_rfl) (by kernel_rfl) (by kernel_rfl) rfl (y_loads ag33 rfl (fun _ hC => (hW5).drawn hC (by omega)) rfl) ?_
      refine AL.y 1 rfl rfl (by kernel_rfl) (by kernel_rfl) (by kernel_rfl) rfl (y_mov (by conv => lhs; whnf)) ?_
      refine AL.y 2 rfl rfl (by kernel_rfl) (by kernel_rfl) (by kernel_rfl) rfl (y_fa fa33_0 rfl rfl) ?_
      refine AL.y 3 rfl rfl (by kernel_rfl) (by kernel_rfl) (by kernel_rfl) rfl (y_loadp (ds := [vp, vd]) ag31 (fun _ hC => (hW5).drawn hC (by omega)) rfl rfl rfl) ?_
      refine AL.one (i := 4) (by kernel_rfl) rfl rfl ?_ 
      intro hr hJ
      refine RL.call rfl (l10DrawNodes_any hXd.1 (hbb5.mod hXd.2 (.inr (by omega))).rd hl.1) ?_
      rintro vz wz ⟨nz, hoz, hnz, hDz⟩
      have hX6 := hXd.trans hDz
      have hsp := hXd.size
      refine RL.nil ?_
      refine Fin.al hr hJ (.inr hX6) ?_
      refine AL.one (i := 5) (by kernel_rfl) rfl rfl ?_ 
      intro hr hJ
      refine RL.stores ag33 ((hV5.drawn hX6 (by omega))) rfl rfl rfl rfl (hR3.one) (fun w7 hV7 hg7 => ?_)
      replace hV7 : VR w7 w.heap.size [vp, vd, vr] := hV7
      have hs7 := hg7.size
      have hs6 := hX6.size
      have hM7 : Mod w.heap.size (w.heap.size + 1) wz w7 := grown_mod hg7 (fun k hk => by simp only [Option.some.injEq] at hk; omega)
      have hR7 := (hR5.mod hX6.2 (.inr (by omega))).mod hM7 (by omega)
      have hE7 : Ext w w7 := (hX6.own (hE3.trans hE35) (by omega)).then_mod hM7 (Nat.le_refl _)
      have ho7 := hoz.grown hg7 (.inl (fun e => by have := (hoz.lt _ e).1; omega))
      refine RL.nil ?_
      refine Fin.al hr hJ (by first | exact .inl (by kernel_rfl) | (refine .inr ?_; assumption)) ?_
      refine AL.one (i := 6) (by kernel_rfl) rfl rfl ?_ 
      intro hr hJ
      refine RL.y rfl (y_asg (by conv => lhs; whnf)) ?_
      refine RL.nil ?_
      refine Fin.al hr hJ (by first | exact .inl (by kernel_rfl) | (refine .inr ?_; assumption)) ?_
      refine AL.nil (by kernel_rfl) ?_
      refine Fin.next ?_
      refine CW.ret ?_
      refine Fin.retct rfl ag33 rfl rfl (hV7) (by conv => lhs; whnf) ?_
      exact ⟨_, rfl, _, _, ps, ds, rs, nz, rfl, hR7.wide (by omega) (by omega) (Nat.le_refl _), ho7.mono (by omega), hl, hnz, hE7⟩
end Go.Proofs.Ytkkeipogkjlneaa
