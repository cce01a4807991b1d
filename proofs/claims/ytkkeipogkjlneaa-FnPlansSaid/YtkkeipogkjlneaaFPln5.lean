/-
  Plans: AddKey.
-/
import Derived.Test.YtkkeipogkjlneaaFPln4
import Derived.Test.YtkkeipogkjlneaaFMarkP
namespace Go.Proofs.Ytkkeipogkjlneaa
open B Go.RowKit

theorem RuP.nil (w : World) (B : Nat) : RuP w B w.heap.size (.agg #[.slice none 0 0, .slice none 0 0, .slice none 0 0]) [] [] [] :=
  ⟨_, _, _, rfl, ⟨_, _, rfl, SV.nil w, SV.nil w, (fun b hb => by simp [Value.ownBlock] at hb), (fun b hb => by simp [Value.ownBlock] at hb), Nat.le_refl _⟩, RuN.nil w B⟩
theorem OwP.nil (w : World) (B : Nat) (h : B ≤ w.heap.size) : OwP w B w.heap.size (.agg #[.slice none 0 0, .slice none 0 0, .slice none 0 0]) [] [] [] :=
  ⟨_, _, _, B, rfl, ⟨_, _, rfl, ⟨OV.nil w B _, h, fun b hb => by simp [Value.ownBlock] at hb⟩, ⟨OV.nil w B _, h, fun b hb => by simp [Value.ownBlock] at hb⟩, fun x h1 _ => by simp [Value.ownBlock] at h1⟩, OwN.nil w B, Nat.le_refl _, h⟩
theorem RuP.one {w : World} {B U : Nat} {a b c : Value} {ps : List Int} {ds : List Bool} {rs : List (List Int)} (h : RuP w B U (.agg #[a, b, c]) ps ds rs) : ([a, b, c] : List Value).all (·.oneCell') = true := by
  obtain ⟨vp, vd, vr, e, ⟨up, ud, e3, h1, h2, _⟩, ⟨cs, h3, _⟩⟩ := h
  have e2 : a = vp ∧ b = vd ∧ c = vr := by simpa using e
  have e4 : vp = up ∧ vd = ud := by simpa using e3
  obtain ⟨rfl, rfl, rfl⟩ := e2
  obtain ⟨rfl, rfl⟩ := e4
  simp [slice_one h1, slice_one h2, slice_one h3.1]
theorem akV_no {α : Type} {c : Int} {x : List α} (h : c ≠ 0) : akV c x = [] := if_neg h
theorem akV_yes {α : Type} {c : Int} {x : List α} (h : c = 0) : akV c x = x := if_pos h

theorem l01Own_any {w : World} {v : Value} {xs : List Int} (hv : SI w v xs) (hlen : xs.length ≤ 1048576) :
    Does Try.prog 85 #[v] w (fun v' w' => OV w' w.heap.size 2 v' (ints xs) ∧ Ext w w') := by
  refine enter Try.func85 rfl 6 Try.ntmps85 rfl (by kernel_rfl) ?_
  refine CW.seq ?_
  refine CW.region ?_
  refine RL.y rfl (y_asg rfl) ?_
  refine RL.nil ?_
  refine Fin.next ?_
  refine CW.seq ?_
  refine CW.region ?_
  refine RL.lit0 rfl sT22 (fun vo w1 ho1 hE1 hb1 => ?_)
  refine RL.y rfl (y_mov (by conv => lhs; whnf)) ?_
  refine RL.app rfl sT22 ho1 (hv.ext hE1) (ints_one _) (by simp [ints]; omega) (by simp [ints]; omega) hE1.size rfl rfl (fun v2 w2 ho2 hg2 hn2 => ?_)
  refine RL.y rfl (y_asg (by conv => lhs; whnf)) ?_
  refine RL.nil ?_
  refine Fin.next ?_
  refine CW.ret ?_
  refine Fin.ret1 rfl (by conv => lhs; whnf) ?_
  exact ⟨_, rfl, by simpa using ho2, hE1.grown hg2 (fun b hb => (ho1.lt b hb).1)⟩

theorem specAddKey_any {w : World} {v u : Value} {ps : List Int} {ds : List Bool} {rs : List (List Int)} {ns : List Int} (hp : RdP w v ps ds rs) (hu : SI w u ns) :
    Does Try.prog 30 #[v, u] w (fun r w' => ∃ v1, r = .tuple #[v1, .int .i64 (akC ps ds rs ns)] ∧ RuP w' w.heap.size w'.heap.size v1 (akV (akC ps ds rs ns) ps) (akV (akC ps ds rs ns) ds) (akV (akC ps ds rs ns) (rs ++ [ns])) ∧ Ext w w') := by
  have hp0 := hp
  obtain ⟨vp, vd, vr, rfl, hb, hr⟩ := hp
  obtain ⟨cs, hc⟩ := hr
  have hxl := hc.le
  obtain ⟨hpv, hdv⟩ : SI w vp ps ∧ SB w vd ds := by obtain ⟨a, b, e, h1, h2⟩ := hb; obtain ⟨rfl, rfl⟩ : vp = a ∧ vd = b := (by simpa using e); exact ⟨h1, h2⟩
  refine enter Try.func30 rfl 61 Try.ntmps30 rfl (by kernel_rfl) ?_
  refine CW.seq ?_
  refine CW.region ?_
  refine RL.box (cs := [vp, vd, vr]) rfl rfl rfl (fun w1 hV1 hE1 => ?_)
  refine RL.alloc rfl ze33 (fun w2 hW2 hE2 => ?_)
  have hE12 := hE1.trans hE2
  have hl2 := hW2.lt
  have hV2 := hV1.ext hE2
  refine RL.y rfl (y_asg rfl) ?_
  refine RL.nil ?_
  refine Fin.next ?_
  refine CW.seq ?_
  refine CW.block ?_
  refine CW.seq ?_
  refine CW.region ?_
  refine RL.y rfl (y_loads ag33 rfl (eqw (hV2)) rfl) ?_
  refine RL.call rfl (specIsPlan_any (hp0.ext hE12)) ?_
  rintro r w3 ⟨rfl, hE3⟩
  have hE13 := hE12.trans hE3
  refine RL.y rfl (y_not rfl) ?_
  refine RL.y rfl (y_asg (v := .bool _) rfl) ?_
  refine RL.nil ?_
  refine Fin.next ?_
  refine CW.cond rfl rfl (fun h1 => ?_) (fun h1 => ?_)
  · with_reducible first | (replace h1 := deNF h1) | (replace h1 := of_decide_eq_true h1) | (replace h1 := of_decide_eq_false h1) | (replace h1 := deNT h1) | (replace h1 := deNN h1) | (replace h1 := bnT h1) | (replace h1 := bnF h1) | skip
    have hno : akC ps ds rs ns = 1 := if_neg h1
    refine CW.seq ?_
    refine CW.region ?_
    refine RL.y rfl (y_build bd33 rfl fill_nil) ?_
    refine RL.stores ag33 ((hW2.ext hE3)) rfl rfl rfl rfl (rfl) (fun w4 hW4 hg4 => ?_)
    replace hW4 : VR w4 w1.heap.size [.slice none 0 0, .slice none 0 0, .slice none 0 0] := hW4
    refine RL.y rfl (y_asg rfl) ?_
    refine RL.nil ?_
    refine Fin.next ?_
    refine CW.ret ?_
    refine Fin.blockRet ?_
    refine Fin.thenRet ?_
    refine Fin.retct rfl ag33 rfl rfl (hW4) (by conv => lhs; whnf) ?_
    exact ⟨_, rfl, _, by rw [hno], by rw [akV_no (by omega), akV_no (by omega), akV_no (by omega)]; exact RuP.nil _ _, hE13.grown hg4 (fun b hb => by have := hE1.size; simp only [Option.some.injEq] at hb; omega)⟩
  · with_reducible first | (replace h1 := deNF h1) | (replace h1 := of_decide_eq_true h1) | (replace h1 := of_decide_eq_false h1) | (replace h1 := deNT h1) | (replace h1 := deNN h1) | (replace h1 := bnT h1) | (replace h1 := bnF h1) | skip
    have h24 := h1.1.1.1
    have hdl := h1.1.1.2.1
    have h10 := h1.2.1
    refine CW.seq ?_
    refine CW.region ?_
    refine RL.y rfl (y_fa fa33_0 rfl rfl) ?_
    refine RL.y rfl (y_loadp (ds := [vp, vd]) ag31 (eqw (hV2.ext hE3)) rfl rfl rfl) ?_
    refine RL.y rfl (y_mov (by conv => lhs; whnf)) ?_
    refine RL.call rfl (l10Nodes_any (hb.ext hE13) (hu.ext hE13)) ?_
    rintro r w4 ⟨rfl, hE4⟩
    have hE14 := hE13.trans hE4
    have hE24 := hE3.trans hE4
    refine RL.y rfl (y_not rfl) ?_
    refine RL.y rfl (y_asg (v := .bool _) rfl) ?_
    refine RL.nil ?_
    refine Fin.next ?_
    refine CW.cond rfl rfl (fun h2 => ?_) (fun h2 => ?_)
    · with_reducible first | (replace h2 := deNF h2) | (replace h2 := of_decide_eq_true h2) | (replace h2 := of_decide_eq_false h2) | (replace h2 := deNT h2) | (replace h2 := deNN h2) | (replace h2 := bnT h2) | (replace h2 := bnF h2) | skip
      have hno : akC ps ds rs ns = 2 := by unfold akC; rw [if_pos h1, if_neg h2]
      refine CW.seq ?_
      refine CW.region ?_
      refine RL.y rfl (y_build bd33 rfl fill_nil) ?_
      refine RL.stores ag33 ((hW2.ext hE24)) rfl rfl rfl rfl (rfl) (fun w5 hW4 hg4 => ?_)
      replace hW4 : VR w5 w1.heap.size [.slice none 0 0, .slice none 0 0, .slice none 0 0] := hW4
      refine RL.y rfl (y_asg rfl) ?_
      refine RL.nil ?_
      refine Fin.next ?_
      refine CW.ret ?_
      refine Fin.blockRet ?_
      refine Fin.thenRet ?_
      refine Fin.retct rfl ag33 rfl rfl (hW4) (by conv => lhs; whnf) ?_
      exact ⟨_, rfl, _, by rw [hno], by rw [akV_no (by omega), akV_no (by omega), akV_no (by omega)]; exact RuP.nil _ _, hE14.grown hg4 (fun b hb => by have := hE1.size; simp only [Option.some.injEq] at hb; omega)⟩
    · with_reducible first | (replace h2 := deNF h2) | (replace h2 := of_decide_eq_true h2) | (replace h2 := of_decide_eq_false h2) | (replace h2 := deNT h2) | (replace h2 := deNN h2) | (replace h2 := bnT h2) | (replace h2 := bnF h2) | skip
      have hnl := rises_len h2.2
      refine CW.seq ?_
      refine CW.region ?_
      refine RL.y rfl (y_fa fa33_1 rfl rfl) ?_
      refine RL.y rfl (y_loadv sc26 (eqw (hV2.ext hE24)) rfl rfl) ?_
      refine RL.y rfl (y_len sT26 hc.1 hc.2.1 rfl) ?_
      refine RL.y rfl (y_eq rfl rfl) ?_
      refine RL.y rfl (y_asg (v := .bool _) rfl) ?_
      refine RL.nil ?_
      refine Fin.next ?_
      refine CW.cond rfl rfl (fun h3 => ?_) (fun h3 => ?_)
      · with_reducible first | (replace h3 := deNF h3) | (replace h3 := of_decide_eq_true h3) | (replace h3 := of_decide_eq_false h3) | (replace h3 := deNT h3) | (replace h3 := deNN h3) | (replace h3 := bnT h3) | (replace h3 := bnF h3) | skip
        have hno : akC ps ds rs ns = 3 := by unfold akC; rw [if_pos h1, if_pos h2, if_pos (by omega)]
        refine CW.seq ?_
        refine CW.region ?_
        refine RL.y rfl (y_build bd33 rfl fill_nil) ?_
        refine RL.stores ag33 ((hW2.ext hE24)) rfl rfl rfl rfl (rfl) (fun w5 hW4 hg4 => ?_)
        replace hW4 : VR w5 w1.heap.size [.slice none 0 0, .slice none 0 0, .slice none 0 0] := hW4
        refine RL.y rfl (y_asg rfl) ?_
        refine RL.nil ?_
        refine Fin.next ?_
        refine CW.ret ?_
        refine Fin.blockRet ?_
        refine Fin.thenRet ?_
        refine Fin.retct rfl ag33 rfl rfl (hW4) (by conv => lhs; whnf) ?_
        exact ⟨_, rfl, _, by rw [hno], by rw [akV_no (by omega), akV_no (by omega), akV_no (by omega)]; exact RuP.nil _ _, hE14.grown hg4 (fun b hb => by have := hE1.size; simp only [Option.some.injEq] at hb; omega)⟩
      · with_reducible first | (replace h3 := deNF h3) | (replace h3 := of_decide_eq_true h3) | (replace h3 := of_decide_eq_false h3) | (replace h3 := deNT h3) | (replace h3 := deNN h3) | (replace h3 := bnT h3) | (replace h3 := bnF h3) | skip
        have hyes : akC ps ds rs ns = 0 := by unfold akC; rw [if_pos h1, if_pos h2, if_neg (by omega)]
        refine CW.skip ?_
        refine Fin.blockNormal ?_
        refine Fin.next ?_
        refine CW.seq ?_
        refine CW.region ?_
        refine RL.lit0 rfl sT26 (fun vo w5 ho5 hE5 hb5 => ?_)
        refine RL.y rfl (y_asg (by conv => lhs; whnf)) ?_
        refine RL.nil ?_
        refine Fin.next ?_
        refine CW.seq ?_
        refine CW.seq ?_
        refine CW.region ?_
        refine RL.y rfl (y_asg rfl) ?_
        refine RL.nil ?_
        refine Fin.next ?_
        refine CW.block ?_
        refine CW.loop (fun q E w' => ∃ (k : Nat) (vo : Value) (cv : List Value) (U : Nat), q = rs.length - k ∧ k ≤ rs.length ∧ agrees E [(1, u), (2, .pointer (some ⟨w.heap.size, 0, none⟩)), (4, .pointer (some ⟨w1.heap.size, 0, none⟩)), (6, vo), (7, .int .i64 (k : Int))] ∧ OwC ints 2 22 w' w4.heap.size U vo cv (rs.take k) ∧ Ext w4 w') _ (⟨0, vo, [], _, rfl, Nat.zero_le _, ⟨rfl, rfl, rfl, rfl, rfl, trivial⟩, OwC.nil ho5, hE5⟩) ?_
        · rintro q E w7 ⟨k, vo, cv, U, rfl, hk, hag, ho7, hE47⟩
          refine CW.re _ hag rfl ?_
          have hE7 := hE14.trans hE47
          have hV7 := hV2.ext (hE24.trans hE47)
          have hcl := ho7.2.1
          rw [List.length_take] at hcl
          refine CW.seq ?_
          refine CW.seq ?_
          refine CW.region ?_
          refine RL.y rfl (y_mov (v := .int _ _) rfl) ?_
          refine RL.y rfl (y_fa fa33_1 rfl rfl) ?_
          refine RL.y rfl (y_loadv sc26 (eqw (hV7)) rfl rfl) ?_
          refine RL.y rfl (y_len sT26 hc.1 hc.2.1 rfl) ?_
          refine RL.y rfl (y_lt rfl rfl) ?_
          refine RL.nil ?_
          refine Fin.next ?_
          refine CW.cond rfl rfl (fun hck => ?_) (fun hck => ?_)
          · with_reducible first | (replace hck := deNF hck) | (replace hck := of_decide_eq_true hck) | (replace hck := of_decide_eq_false hck) | (replace hck := deNT hck) | (replace hck := deNN hck) | (replace hck := bnT hck) | (replace hck := bnF hck) | skip
            have hlt : k < rs.length := by omega
            have hrl := rises_len (h1.2.2 _ (List.getElem_mem hlt)).2
            have hU := ho7.1.2.1
            refine CW.skip ?_
            refine Fin.next ?_
            refine CW.seq ?_
            refine CW.block ?_
            refine CW.region ?_
            refine RL.y rfl (y_mov (by conv => lhs; whnf)) ?_
            refine RL.y rfl (y_fa fa33_1 rfl rfl) ?_
            refine RL.y rfl (y_loadv sc26 (eqw (hV7)) rfl rfl) ?_
            refine RL.y rfl (y_mov (v := .int _ _) rfl) ?_
            refine RL.y rfl (y_ixa sT26 (eqw (hc.1.ext hE7)) (k := k) (hc.lt hlt) rfl rfl) ?_
            refine RL.y rfl (y_load sc22 (eqw (hc.1.ext hE7)) (hc.at hlt) rfl) ?_
            refine RL.call rfl (l01Own_any ((hc.row hlt).ext hE7) (by omega)) ?_
            rintro vw w8 ⟨ho8, hE8⟩
            have ho78 := ho7.ext hE8
            refine RL.app1 rfl rfl sT26 (by omega) ho78.1.ov (by omega) (hE47.trans hE8).size rfl (slice_one ho8.sv) (fun _ => rfl) (fun u v9 w9 ho9 hg9 hn9 => ?_)
            have hpu := ho78.push (ho8.mono hE47.size) (fun b hb => by have := (ho8.lt b hb).1; omega) ho9 hg9 hn9
            rw [← List.take_succ_eq_append_getElem hlt] at hpu
            refine RL.y rfl (y_asg (by conv => lhs; whnf)) ?_
            refine RL.nil ?_
            refine Fin.blockNormal ?_
            refine Fin.next ?_
            refine CW.region ?_
            refine RL.y rfl (y_mov (v := .int _ _) rfl) ?_
            refine RL.y rfl (y_add rfl rfl (IntWalk.i64_in _ (by omega))) ?_
            refine RL.y rfl (y_asg (v := .int _ _) rfl) ?_
            refine RL.nil ?_
            refine Fin.le ?_
            exact ⟨rs.length - (k + 1), by omega, k + 1, v9, _, _, rfl, hlt, ⟨rfl, rfl, rfl, rfl, rfl, trivial⟩, hpu, (hE47.trans hE8).grown hg9 (fun b hb => (ho78.1.lt b hb).1)⟩
          · with_reducible first | (replace hck := deNF hck) | (replace hck := of_decide_eq_true hck) | (replace hck := of_decide_eq_false hck) | (replace hck := deNT hck) | (replace hck := deNN hck) | (replace hck := bnT hck) | (replace hck := bnF hck) | skip
            obtain rfl : k = rs.length := by omega
            rw [List.take_length] at ho7
            have hB0 : Ext w7 w7.drew := Ext.drew _
            refine CW.exit ?_
            refine Fin.thenExit ?_
            refine Fin.thenExit ?_
            refine Fin.blockHit ?_
            refine Fin.next ?_
            refine CW.cut (fun E w' => ∃ (up ud : Value) (c : Nat), agrees E [(1, u), (4, .pointer (some ⟨w1.heap.size, 0, none⟩)), (6, vo), (8, .pointer (some ⟨c, 0, none⟩))] ∧ VR w' c [up, ud] ∧ OV w' w7.heap.size 2 up (ints ps) ∧ OV w' w7.heap.size 4 ud (bools ds) ∧ w7.heap.size ≤ c ∧ Ext w7 w') ?_ ?_
            · refine CW.any (Ext _) [3, 4, 8, 10, 11] mixed rfl (Ext.drew _) ?_
              refine AL.y 0 rfl rfl (by kernel_rfl) (by kernel_rfl) (by kernel_rfl) rfl (y_fa fa33_0 rfl rfl) ?_
              refine AL.y 1 rfl rfl (by kernel_rfl) (by kernel_rfl) (by kernel_rfl) rfl (y_fa fa31_0 rfl rfl) ?_
              refine AL.y 2 rfl rfl (by kernel_rfl) (by kernel_rfl) (by kernel_rfl) rfl (y_loadv sc22 (fun _ hC => (hV7).ext hC) rfl rfl) ?_
              refine AL.y 5 rfl rfl (by kernel_rfl) (by kernel_rfl) (by kernel_rfl) rfl (y_fa fa33_0 rfl rfl) ?_
              refine AL.y 6 rfl rfl (by kernel_rfl) (by kernel_rfl) (by kernel_rfl) rfl (y_fa fa31_1 rfl rfl) ?_
              refine AL.y 7 rfl rfl (by kernel_rfl) (by kernel_rfl) (by kernel_rfl) rfl (y_loadv sc23 (fun _ hC => (hV7).ext hC) rfl rfl) ?_
              refine AL.three (i := 3) (j := 4) (k := 10) (by kernel_rfl) rfl rfl rfl rfl rfl rfl ?_ ?_ ?_ 
              · intro hr hJ
                refine RL.call rfl (l01Own_any ((hpv.ext hE7).ext hB0) (by omega)) ?_
                rintro up wx1 ⟨hU, hX1⟩
                have hB1 := hB0.trans hX1
                have hUs1 := hU.mono hB0.size
                refine RL.nil ?_
                refine Fin.al hr hJ (.inr hB1) ?_
                refine AL.two (i := 4) (j := 10) (by kernel_rfl) rfl rfl rfl rfl ?_ ?_ 
                · intro hr hJ
                  refine RL.lit0 rfl sT23 (fun ud0 wx2 hD hX2 hdb => ?_)
                  have hB2 := hB1.trans hX2
                  have hUs2 := hUs1.ext hX2
                  have hN : NB up ud0 := (fun x h1 h2 => by have := (hUs1.lt x h1).2; have := (hD.lt x h2).1; omega)
                  have hDs2 := hD.mono hB1.size
                  refine RL.nil ?_
                  refine Fin.al hr hJ (.inr hB2) ?_
                  refine AL.two (i := 8) (j := 10) (by kernel_rfl) rfl rfl rfl rfl ?_ ?_ 
                  · intro hr hJ
                    refine RL.app rfl sT23 hDs2 ((hdv.ext hE7).ext hB2) (bools_one _) (by simp [bools]; omega) (by simp [bools]; omega) hB2.size rfl rfl (fun ud wx3 hD8 hg8 hn8 => ?_)
                    have hB3 := hB2.grown hg8 (fun b hb => (hDs2.lt b hb).1)
                    have hDs3 : OV wx3 w7.heap.size 4 ud (bools ds) := by simpa using hD8
                    have hUs3 := ov_other hUs2 hg8 hN
                    refine RL.nil ?_
                    refine Fin.al hr hJ (.inr hB3) ?_
                    refine AL.y 9 rfl rfl (by kernel_rfl) (by kernel_rfl) (by kernel_rfl) rfl (y_build bd31 rfl (fill_one (slice_one hUs3.sv) rfl rfl (fill_one (slice_one hDs3.sv) rfl rfl fill_nil))) ?_
                    refine AL.one (i := 10) (by kernel_rfl) rfl rfl ?_ 
                    intro hr hJ
                    refine RL.alloc rfl ze31 (fun wx4 hV hX4 => ?_)
                    have hB4 := hB3.trans hX4
                    obtain ⟨c, hc⟩ : ∃ c, c = wx3.heap.size := ⟨_, rfl⟩
                    have hcB : w7.heap.size ≤ c := by rw [hc]; exact hB3.size
                    rw [← hc] at hV
                    rw [← hc]
                    have hUs4 := hUs3.ext hX4
                    have hcU : ∀ x, up.ownBlock = some x → x ≠ c := fun x h1 => by have := (hUs3.lt x h1).2; omega
                    have hDs4 := hDs3.ext hX4
                    have hcD : ∀ x, ud.ownBlock = some x → x ≠ c := fun x h1 => by have := (hDs3.lt x h1).2; omega
                    have hVs4 := hV
                    refine RL.nil ?_
                    refine Fin.al hr hJ (.inr hB4) ?_
                    refine AL.one (i := 11) (by kernel_rfl) rfl rfl ?_ 
                    intro hr hJ
                    refine RL.stores ag31 (hVs4) rfl rfl rfl rfl ((show ([up, ud] : List Value).all (·.oneCell') = true by simp [slice_one hUs4.sv, slice_one hDs4.sv])) (fun wx5 hV11 hg11 => ?_)
                    replace hV11 : VR wx5 c [up, ud] := hV11
                    have hB5 := hB4.grown hg11 (fun b hb => by simp only [Option.some.injEq] at hb; omega)
                    have hU11 := hUs4.grown hg11 (.inl (fun e => hcU c e rfl))
                    have hD11 := hDs4.grown hg11 (.inl (fun e => hcD c e rfl))
                    refine RL.nil ?_
                    refine Fin.al hr hJ (.inr hB5) ?_
                    refine AL.nil (by kernel_rfl) ?_
                    refine Fin.le ?_
                    exact ⟨up, ud, c, ⟨rfl, rfl, rfl, rfl, trivial⟩, hV11, hU11, hD11, hcB, hB5⟩
                  · intro hr hJ
                    refine RL.alloc rfl ze31 (fun wx3 hV hX3 => ?_)
                    have hB3 := hB2.trans hX3
                    obtain ⟨c, hc⟩ : ∃ c, c = wx2.heap.size := ⟨_, rfl⟩
                    have hcB : w7.heap.size ≤ c := by rw [hc]; exact hB2.size
                    rw [← hc] at hV
                    rw [← hc]
                    have hUs3 := hUs2.ext hX3
                    have hcU : ∀ x, up.ownBlock = some x → x ≠ c := fun x h1 => by have := (hUs2.lt x h1).2; omega
                    have hDs3 := hDs2.ext hX3
                    have hcD : ∀ x, ud0.ownBlock = some x → x ≠ c := fun x h1 => by have := (hDs2.lt x h1).2; omega
                    have hVs3 := hV
                    refine RL.nil ?_
                    refine Fin.al hr hJ (.inr hB3) ?_
                    refine AL.one (i := 8) (by kernel_rfl) rfl rfl ?_ 
                    intro hr hJ
                    refine RL.app rfl sT23 hDs3 ((hdv.ext hE7).ext hB3) (bools_one _) (by simp [bools]; omega) (by simp [bools]; omega) hB3.size rfl rfl (fun ud wx4 hD8 hg8 hn8 => ?_)
                    have hB4 := hB3.grown hg8 (fun b hb => (hDs3.lt b hb).1)
                    have hDs4 : OV wx4 w7.heap.size 4 ud (bools ds) := by simpa using hD8
                    have hUs4 := ov_other hUs3 hg8 hN
                    have hVs4 := hVs3.grown hg8 (fun e => hcD c e rfl)
                    have hcD : ∀ x, ud.ownBlock = some x → x ≠ c := fun x h1 => by rcases hn8 with h2 | h2; exact hcD x (h2 ▸ h1); (rw [h1] at h2; simp only [Option.some.injEq] at h2; have := hVs3.lt; omega)
                    refine RL.nil ?_
                    refine Fin.al hr hJ (.inr hB4) ?_
                    refine AL.y 9 rfl rfl (by kernel_rfl) (by kernel_rfl) (by kernel_rfl) rfl (y_build bd31 rfl (fill_one (slice_one hUs4.sv) rfl rfl (fill_one (slice_one hDs4.sv) rfl rfl fill_nil))) ?_
                    refine AL.one (i := 11) (by kernel_rfl) rfl rfl ?_ 
                    intro hr hJ
                    refine RL.stores ag31 (hVs4) rfl rfl rfl rfl ((show ([up, ud] : List Value).all (·.oneCell') = true by simp [slice_one hUs4.sv, slice_one hDs4.sv])) (fun wx5 hV11 hg11 => ?_)
                    replace hV11 : VR wx5 c [up, ud] := hV11
                    have hB5 := hB4.grown hg11 (fun b hb => by simp only [Option.some.injEq] at hb; omega)
                    have hU11 := hUs4.grown hg11 (.inl (fun e => hcU c e rfl))
                    have hD11 := hDs4.grown hg11 (.inl (fun e => hcD c e rfl))
                    refine RL.nil ?_
                    refine Fin.al hr hJ (.inr hB5) ?_
                    refine AL.nil (by kernel_rfl) ?_
                    refine Fin.le ?_
                    exact ⟨up, ud, c, ⟨rfl, rfl, rfl, rfl, trivial⟩, hV11, hU11, hD11, hcB, hB5⟩
                · intro hr hJ
                  refine RL.alloc rfl ze31 (fun wx2 hV hX2 => ?_)
                  have hB2 := hB1.trans hX2
                  obtain ⟨c, hc⟩ : ∃ c, c = wx1.heap.size := ⟨_, rfl⟩
                  have hcB : w7.heap.size ≤ c := by rw [hc]; exact hB1.size
                  rw [← hc] at hV
                  rw [← hc]
                  have hUs2 := hUs1.ext hX2
                  have hcU : ∀ x, up.ownBlock = some x → x ≠ c := fun x h1 => by have := (hUs1.lt x h1).2; omega
                  have hVs2 := hV
                  refine RL.nil ?_
                  refine Fin.al hr hJ (.inr hB2) ?_
                  refine AL.one (i := 4) (by kernel_rfl) rfl rfl ?_ 
                  intro hr hJ
                  refine RL.lit0 rfl sT23 (fun ud0 wx3 hD hX3 hdb => ?_)
                  have hB3 := hB2.trans hX3
                  have hUs3 := hUs2.ext hX3
                  have hN : NB up ud0 := (fun x h1 h2 => by have := (hUs2.lt x h1).2; have := (hD.lt x h2).1; omega)
                  have hVs3 := hVs2.ext hX3
                  have hDs3 := hD.mono hB2.size
                  have hcD : ∀ x, ud0.ownBlock = some x → x ≠ c := fun x h1 => by have := (hD.lt x h1).1; have := hVs2.lt; omega
                  refine RL.nil ?_
                  refine Fin.al hr hJ (.inr hB3) ?_
                  refine AL.one (i := 8) (by kernel_rfl) rfl rfl ?_ 
                  intro hr hJ
                  refine RL.app rfl sT23 hDs3 ((hdv.ext hE7).ext hB3) (bools_one _) (by simp [bools]; omega) (by simp [bools]; omega) hB3.size rfl rfl (fun ud wx4 hD8 hg8 hn8 => ?_)
                  have hB4 := hB3.grown hg8 (fun b hb => (hDs3.lt b hb).1)
                  have hDs4 : OV wx4 w7.heap.size 4 ud (bools ds) := by simpa using hD8
                  have hUs4 := ov_other hUs3 hg8 hN
                  have hVs4 := hVs3.grown hg8 (fun e => hcD c e rfl)
                  have hcD : ∀ x, ud.ownBlock = some x → x ≠ c := fun x h1 => by rcases hn8 with h2 | h2; exact hcD x (h2 ▸ h1); (rw [h1] at h2; simp only [Option.some.injEq] at h2; have := hVs3.lt; omega)
                  refine RL.nil ?_
                  refine Fin.al hr hJ (.inr hB4) ?_
                  refine AL.y 9 rfl rfl (by kernel_rfl) (by kernel_rfl) (by kernel_rfl) rfl (y_build bd31 rfl (fill_one (slice_one hUs4.sv) rfl rfl (fill_one (slice_one hDs4.sv) rfl rfl fill_nil))) ?_
                  refine AL.one (i := 11) (by kernel_rfl) rfl rfl ?_ 
                  intro hr hJ
                  refine RL.stores ag31 (hVs4) rfl rfl rfl rfl ((show ([up, ud] : List Value).all (·.oneCell') = true by simp [slice_one hUs4.sv, slice_one hDs4.sv])) (fun wx5 hV11 hg11 => ?_)
                  replace hV11 : VR wx5 c [up, ud] := hV11
                  have hB5 := hB4.grown hg11 (fun b hb => by simp only [Option.some.injEq] at hb; omega)
                  have hU11 := hUs4.grown hg11 (.inl (fun e => hcU c e rfl))
                  have hD11 := hDs4.grown hg11 (.inl (fun e => hcD c e rfl))
                  refine RL.nil ?_
                  refine Fin.al hr hJ (.inr hB5) ?_
                  refine AL.nil (by kernel_rfl) ?_
                  refine Fin.le ?_
                  exact ⟨up, ud, c, ⟨rfl, rfl, rfl, rfl, trivial⟩, hV11, hU11, hD11, hcB, hB5⟩
              · intro hr hJ
                refine RL.lit0 rfl sT23 (fun ud0 wx1 hD hX1 hdb => ?_)
                have hB1 := hB0.trans hX1
                have hDs1 := hD.mono hB0.size
                refine RL.nil ?_
                refine Fin.al hr hJ (.inr hB1) ?_
                refine AL.two (i := 3) (j := 10) (by kernel_rfl) rfl rfl rfl rfl ?_ ?_ 
                · intro hr hJ
                  refine RL.call rfl (l01Own_any ((hpv.ext hE7).ext hB1) (by omega)) ?_
                  rintro up wx2 ⟨hU, hX2⟩
                  have hB2 := hB1.trans hX2
                  have hDs2 := hDs1.ext hX2
                  have hN : NB up ud0 := (fun x h1 h2 => by have := (hU.lt x h1).1; have := (hDs1.lt x h2).2; omega)
                  have hUs2 := hU.mono hB1.size
                  refine RL.nil ?_
                  refine Fin.al hr hJ (.inr hB2) ?_
                  refine AL.two (i := 8) (j := 10) (by kernel_rfl) rfl rfl rfl rfl ?_ ?_ 
                  · intro hr hJ
                    refine RL.app rfl sT23 hDs2 ((hdv.ext hE7).ext hB2) (bools_one _) (by simp [bools]; omega) (by simp [bools]; omega) hB2.size rfl rfl (fun ud wx3 hD8 hg8 hn8 => ?_)
                    have hB3 := hB2.grown hg8 (fun b hb => (hDs2.lt b hb).1)
                    have hDs3 : OV wx3 w7.heap.size 4 ud (bools ds) := by simpa using hD8
                    have hUs3 := ov_other hUs2 hg8 hN
                    refine RL.nil ?_
                    refine Fin.al hr hJ (.inr hB3) ?_
                    refine AL.y 9 rfl rfl (by kernel_rfl) (by kernel_rfl) (by kernel_rfl) rfl (y_build bd31 rfl (fill_one (slice_one hUs3.sv) rfl rfl (fill_one (slice_one hDs3.sv) rfl rfl fill_nil))) ?_
                    refine AL.one (i := 10) (by kernel_rfl) rfl rfl ?_ 
                    intro hr hJ
                    refine RL.alloc rfl ze31 (fun wx4 hV hX4 => ?_)
                    have hB4 := hB3.trans hX4
                    obtain ⟨c, hc⟩ : ∃ c, c = wx3.heap.size := ⟨_, rfl⟩
                    have hcB : w7.heap.size ≤ c := by rw [hc]; exact hB3.size
                    rw [← hc] at hV
                    rw [← hc]
                    have hUs4 := hUs3.ext hX4
                    have hcU : ∀ x, up.ownBlock = some x → x ≠ c := fun x h1 => by have := (hUs3.lt x h1).2; omega
                    have hDs4 := hDs3.ext hX4
                    have hcD : ∀ x, ud.ownBlock = some x → x ≠ c := fun x h1 => by have := (hDs3.lt x h1).2; omega
                    have hVs4 := hV
                    refine RL.nil ?_
                    refine Fin.al hr hJ (.inr hB4) ?_
                    refine AL.one (i := 11) (by kernel_rfl) rfl rfl ?_ 
                    intro hr hJ
                    refine RL.stores ag31 (hVs4) rfl rfl rfl rfl ((show ([up, ud] : List Value).all (·.oneCell') = true by simp [slice_one hUs4.sv, slice_one hDs4.sv])) (fun wx5 hV11 hg11 => ?_)
                    replace hV11 : VR wx5 c [up, ud] := hV11
                    have hB5 := hB4.grown hg11 (fun b hb => by simp only [Option.some.injEq] at hb; omega)
                    have hU11 := hUs4.grown hg11 (.inl (fun e => hcU c e rfl))
                    have hD11 := hDs4.grown hg11 (.inl (fun e => hcD c e rfl))
                    refine RL.nil ?_
                    refine Fin.al hr hJ (.inr hB5) ?_
                    refine AL.nil (by kernel_rfl) ?_
                    refine Fin.le ?_
                    exact ⟨up, ud, c, ⟨rfl, rfl, rfl, rfl, trivial⟩, hV11, hU11, hD11, hcB, hB5⟩
                  · intro hr hJ
                    refine RL.alloc rfl ze31 (fun wx3 hV hX3 => ?_)
                    have hB3 := hB2.trans hX3
                    obtain ⟨c, hc⟩ : ∃ c, c = wx2.heap.size := ⟨_, rfl⟩
                    have hcB : w7.heap.size ≤ c := by rw [hc]; exact hB2.size
                    rw [← hc] at hV
                    rw [← hc]
                    have hUs3 := hUs2.ext hX3
                    have hcU : ∀ x, up.ownBlock = some x → x ≠ c := fun x h1 => by have := (hUs2.lt x h1).2; omega
                    have hDs3 := hDs2.ext hX3
                    have hcD : ∀ x, ud0.ownBlock = some x → x ≠ c := fun x h1 => by have := (hDs2.lt x h1).2; omega
                    have hVs3 := hV
                    refine RL.nil ?_
                    refine Fin.al hr hJ (.inr hB3) ?_
                    refine AL.one (i := 8) (by kernel_rfl) rfl rfl ?_ 
                    intro hr hJ
                    refine RL.app rfl sT23 hDs3 ((hdv.ext hE7).ext hB3) (bools_one _) (by simp [bools]; omega) (by simp [bools]; omega) hB3.size rfl rfl (fun ud wx4 hD8 hg8 hn8 => ?_)
                    have hB4 := hB3.grown hg8 (fun b hb => (hDs3.lt b hb).1)
                    have hDs4 : OV wx4 w7.heap.size 4 ud (bools ds) := by simpa using hD8
                    have hUs4 := ov_other hUs3 hg8 hN
                    have hVs4 := hVs3.grown hg8 (fun e => hcD c e rfl)
                    have hcD : ∀ x, ud.ownBlock = some x → x ≠ c := fun x h1 => by rcases hn8 with h2 | h2; exact hcD x (h2 ▸ h1); (rw [h1] at h2; simp only [Option.some.injEq] at h2; have := hVs3.lt; omega)
                    refine RL.nil ?_
                    refine Fin.al hr hJ (.inr hB4) ?_
                    refine AL.y 9 rfl rfl (by kernel_rfl) (by kernel_rfl) (by kernel_rfl) rfl (y_build bd31 rfl (fill_one (slice_one hUs4.sv) rfl rfl (fill_one (slice_one hDs4.sv) rfl rfl fill_nil))) ?_
                    refine AL.one (i := 11) (by kernel_rfl) rfl rfl ?_ 
                    intro hr hJ
                    refine RL.stores ag31 (hVs4) rfl rfl rfl rfl ((show ([up, ud] : List Value).all (·.oneCell') = true by simp [slice_one hUs4.sv, slice_one hDs4.sv])) (fun wx5 hV11 hg11 => ?_)
                    replace hV11 : VR wx5 c [up, ud] := hV11
                    have hB5 := hB4.grown hg11 (fun b hb => by simp only [Option.some.injEq] at hb; omega)
                    have hU11 := hUs4.grown hg11 (.inl (fun e => hcU c e rfl))
                    have hD11 := hDs4.grown hg11 (.inl (fun e => hcD c e rfl))
                    refine RL.nil ?_
                    refine Fin.al hr hJ (.inr hB5) ?_
                    refine AL.nil (by kernel_rfl) ?_
                    refine Fin.le ?_
                    exact ⟨up, ud, c, ⟨rfl, rfl, rfl, rfl, trivial⟩, hV11, hU11, hD11, hcB, hB5⟩
                · intro hr hJ
                  refine RL.alloc rfl ze31 (fun wx2 hV hX2 => ?_)
                  have hB2 := hB1.trans hX2
                  obtain ⟨c, hc⟩ : ∃ c, c = wx1.heap.size := ⟨_, rfl⟩
                  have hcB : w7.heap.size ≤ c := by rw [hc]; exact hB1.size
                  rw [← hc] at hV
                  rw [← hc]
                  have hDs2 := hDs1.ext hX2
                  have hcD : ∀ x, ud0.ownBlock = some x → x ≠ c := fun x h1 => by have := (hDs1.lt x h1).2; omega
                  have hVs2 := hV
                  refine RL.nil ?_
                  refine Fin.al hr hJ (.inr hB2) ?_
                  refine AL.one (i := 3) (by kernel_rfl) rfl rfl ?_ 
                  intro hr hJ
                  refine RL.call rfl (l01Own_any ((hpv.ext hE7).ext hB2) (by omega)) ?_
                  rintro up wx3 ⟨hU, hX3⟩
                  have hB3 := hB2.trans hX3
                  have hDs3 := hDs2.ext hX3
                  have hN : NB up ud0 := (fun x h1 h2 => by have := (hU.lt x h1).1; have := (hDs2.lt x h2).2; omega)
                  have hVs3 := hVs2.ext hX3
                  have hUs3 := hU.mono hB2.size
                  have hcU : ∀ x, up.ownBlock = some x → x ≠ c := fun x h1 => by have := (hU.lt x h1).1; have := hVs2.lt; omega
                  refine RL.nil ?_
                  refine Fin.al hr hJ (.inr hB3) ?_
                  refine AL.one (i := 8) (by kernel_rfl) rfl rfl ?_ 
                  intro hr hJ
                  refine RL.app rfl sT23 hDs3 ((hdv.ext hE7).ext hB3) (bools_one _) (by simp [bools]; omega) (by simp [bools]; omega) hB3.size rfl rfl (fun ud wx4 hD8 hg8 hn8 => ?_)
                  have hB4 := hB3.grown hg8 (fun b hb => (hDs3.lt b hb).1)
                  have hDs4 : OV wx4 w7.heap.size 4 ud (bools ds) := by simpa using hD8
                  have hUs4 := ov_other hUs3 hg8 hN
                  have hVs4 := hVs3.grown hg8 (fun e => hcD c e rfl)
                  have hcD : ∀ x, ud.ownBlock = some x → x ≠ c := fun x h1 => by rcases hn8 with h2 | h2; exact hcD x (h2 ▸ h1); (rw [h1] at h2; simp only [Option.some.injEq] at h2; have := hVs3.lt; omega)
                  refine RL.nil ?_
                  refine Fin.al hr hJ (.inr hB4) ?_
                  refine AL.y 9 rfl rfl (by kernel_rfl) (by kernel_rfl) (by kernel_rfl) rfl (y_build bd31 rfl (fill_one (slice_one hUs4.sv) rfl rfl (fill_one (slice_one hDs4.sv) rfl rfl fill_nil))) ?_
                  refine AL.one (i := 11) (by kernel_rfl) rfl rfl ?_ 
                  intro hr hJ
                  refine RL.stores ag31 (hVs4) rfl rfl rfl rfl ((show ([up, ud] : List Value).all (·.oneCell') = true by simp [slice_one hUs4.sv, slice_one hDs4.sv])) (fun wx5 hV11 hg11 => ?_)
                  replace hV11 : VR wx5 c [up, ud] := hV11
                  have hB5 := hB4.grown hg11 (fun b hb => by simp only [Option.some.injEq] at hb; omega)
                  have hU11 := hUs4.grown hg11 (.inl (fun e => hcU c e rfl))
                  have hD11 := hDs4.grown hg11 (.inl (fun e => hcD c e rfl))
                  refine RL.nil ?_
                  refine Fin.al hr hJ (.inr hB5) ?_
                  refine AL.nil (by kernel_rfl) ?_
                  refine Fin.le ?_
                  exact ⟨up, ud, c, ⟨rfl, rfl, rfl, rfl, trivial⟩, hV11, hU11, hD11, hcB, hB5⟩
              · intro hr hJ
                refine RL.alloc rfl ze31 (fun wx1 hV hX1 => ?_)
                have hB1 := hB0.trans hX1
                obtain ⟨c, hc⟩ : ∃ c, c = w7.drew.heap.size := ⟨_, rfl⟩
                have hcB : w7.heap.size ≤ c := by rw [hc]; exact hB0.size
                rw [← hc] at hV
                rw [← hc]
                have hVs1 := hV
                refine RL.nil ?_
                refine Fin.al hr hJ (.inr hB1) ?_
                refine AL.two (i := 3) (j := 4) (by kernel_rfl) rfl rfl rfl rfl ?_ ?_ 
                · intro hr hJ
                  refine RL.call rfl (l01Own_any ((hpv.ext hE7).ext hB1) (by omega)) ?_
                  rintro up wx2 ⟨hU, hX2⟩
                  have hB2 := hB1.trans hX2
                  have hVs2 := hVs1.ext hX2
                  have hUs2 := hU.mono hB1.size
                  have hcU : ∀ x, up.ownBlock = some x → x ≠ c := fun x h1 => by have := (hU.lt x h1).1; have := hVs1.lt; omega
                  refine RL.nil ?_
                  refine Fin.al hr hJ (.inr hB2) ?_
                  refine AL.one (i := 4) (by kernel_rfl) rfl rfl ?_ 
                  intro hr hJ
                  refine RL.lit0 rfl sT23 (fun ud0 wx3 hD hX3 hdb => ?_)
                  have hB3 := hB2.trans hX3
                  have hUs3 := hUs2.ext hX3
                  have hN : NB up ud0 := (fun x h1 h2 => by have := (hUs2.lt x h1).2; have := (hD.lt x h2).1; omega)
                  have hVs3 := hVs2.ext hX3
                  have hDs3 := hD.mono hB2.size
                  have hcD : ∀ x, ud0.ownBlock = some x → x ≠ c := fun x h1 => by have := (hD.lt x h1).1; have := hVs2.lt; omega
                  refine RL.nil ?_
                  refine Fin.al hr hJ (.inr hB3) ?_
                  refine AL.one (i := 8) (by kernel_rfl) rfl rfl ?_ 
                  intro hr hJ
                  refine RL.app rfl sT23 hDs3 ((hdv.ext hE7).ext hB3) (bools_one _) (by simp [bools]; omega) (by simp [bools]; omega) hB3.size rfl rfl (fun ud wx4 hD8 hg8 hn8 => ?_)
                  have hB4 := hB3.grown hg8 (fun b hb => (hDs3.lt b hb).1)
                  have hDs4 : OV wx4 w7.heap.size 4 ud (bools ds) := by simpa using hD8
                  have hUs4 := ov_other hUs3 hg8 hN
                  have hVs4 := hVs3.grown hg8 (fun e => hcD c e rfl)
                  have hcD : ∀ x, ud.ownBlock = some x → x ≠ c := fun x h1 => by rcases hn8 with h2 | h2; exact hcD x (h2 ▸ h1); (rw [h1] at h2; simp only [Option.some.injEq] at h2; have := hVs3.lt; omega)
                  refine RL.nil ?_
                  refine Fin.al hr hJ (.inr hB4) ?_
                  refine AL.y 9 rfl rfl (by kernel_rfl) (by kernel_rfl) (by kernel_rfl) rfl (y_build bd31 rfl (fill_one (slice_one hUs4.sv) rfl rfl (fill_one (slice_one hDs4.sv) rfl rfl fill_nil))) ?_
                  refine AL.one (i := 11) (by kernel_rfl) rfl rfl ?_ 
                  intro hr hJ
                  refine RL.stores ag31 (hVs4) rfl rfl rfl rfl ((show ([up, ud] : List Value).all (·.oneCell') = true by simp [slice_one hUs4.sv, slice_one hDs4.sv])) (fun wx5 hV11 hg11 => ?_)
                  replace hV11 : VR wx5 c [up, ud] := hV11
                  have hB5 := hB4.grown hg11 (fun b hb => by simp only [Option.some.injEq] at hb; omega)
                  have hU11 := hUs4.grown hg11 (.inl (fun e => hcU c e rfl))
                  have hD11 := hDs4.grown hg11 (.inl (fun e => hcD c e rfl))
                  refine RL.nil ?_
                  refine Fin.al hr hJ (.inr hB5) ?_
                  refine AL.nil (by kernel_rfl) ?_
                  refine Fin.le ?_
                  exact ⟨up, ud, c, ⟨rfl, rfl, rfl, rfl, trivial⟩, hV11, hU11, hD11, hcB, hB5⟩
                · intro hr hJ
                  refine RL.lit0 rfl sT23 (fun ud0 wx2 hD hX2 hdb => ?_)
                  have hB2 := hB1.trans hX2
                  have hVs2 := hVs1.ext hX2
                  have hDs2 := hD.mono hB1.size
                  have hcD : ∀ x, ud0.ownBlock = some x → x ≠ c := fun x h1 => by have := (hD.lt x h1).1; have := hVs1.lt; omega
                  refine RL.nil ?_
                  refine Fin.al hr hJ (.inr hB2) ?_
                  refine AL.one (i := 3) (by kernel_rfl) rfl rfl ?_ 
                  intro hr hJ
                  refine RL.call rfl (l01Own_any ((hpv.ext hE7).ext hB2) (by omega)) ?_
                  rintro up wx3 ⟨hU, hX3⟩
                  have hB3 := hB2.trans hX3
                  have hDs3 := hDs2.ext hX3
                  have hN : NB up ud0 := (fun x h1 h2 => by have := (hU.lt x h1).1; have := (hDs2.lt x h2).2; omega)
                  have hVs3 := hVs2.ext hX3
                  have hUs3 := hU.mono hB2.size
                  have hcU : ∀ x, up.ownBlock = some x → x ≠ c := fun x h1 => by have := (hU.lt x h1).1; have := hVs2.lt; omega
                  refine RL.nil ?_
                  refine Fin.al hr hJ (.inr hB3) ?_
                  refine AL.one (i := 8) (by kernel_rfl) rfl rfl ?_ 
                  intro hr hJ
                  refine RL.app rfl sT23 hDs3 ((hdv.ext hE7).ext hB3) (bools_one _) (by simp [bools]; omega) (by simp [bools]; omega) hB3.size rfl rfl (fun ud wx4 hD8 hg8 hn8 => ?_)
                  have hB4 := hB3.grown hg8 (fun b hb => (hDs3.lt b hb).1)
                  have hDs4 : OV wx4 w7.heap.size 4 ud (bools ds) := by simpa using hD8
                  have hUs4 := ov_other hUs3 hg8 hN
                  have hVs4 := hVs3.grown hg8 (fun e => hcD c e rfl)
                  have hcD : ∀ x, ud.ownBlock = some x → x ≠ c := fun x h1 => by rcases hn8 with h2 | h2; exact hcD x (h2 ▸ h1); (rw [h1] at h2; simp only [Option.some.injEq] at h2; have := hVs3.lt; omega)
                  refine RL.nil ?_
                  refine Fin.al hr hJ (.inr hB4) ?_
                  refine AL.y 9 rfl rfl (by kernel_rfl) (by kernel_rfl) (by kernel_rfl) rfl (y_build bd31 rfl (fill_one (slice_one hUs4.sv) rfl rfl (fill_one (slice_one hDs4.sv) rfl rfl fill_nil))) ?_
                  refine AL.one (i := 11) (by kernel_rfl) rfl rfl ?_ 
                  intro hr hJ
                  refine RL.stores ag31 (hVs4) rfl rfl rfl rfl ((show ([up, ud] : List Value).all (·.oneCell') = true by simp [slice_one hUs4.sv, slice_one hDs4.sv])) (fun wx5 hV11 hg11 => ?_)
                  replace hV11 : VR wx5 c [up, ud] := hV11
                  have hB5 := hB4.grown hg11 (fun b hb => by simp only [Option.some.injEq] at hb; omega)
                  have hU11 := hUs4.grown hg11 (.inl (fun e => hcU c e rfl))
                  have hD11 := hDs4.grown hg11 (.inl (fun e => hcD c e rfl))
                  refine RL.nil ?_
                  refine Fin.al hr hJ (.inr hB5) ?_
                  refine AL.nil (by kernel_rfl) ?_
                  refine Fin.le ?_
                  exact ⟨up, ud, c, ⟨rfl, rfl, rfl, rfl, trivial⟩, hV11, hU11, hD11, hcB, hB5⟩
            · rintro E w8 ⟨up, ud, c, hag, hV8, hU8, hD8, hc8, hE78⟩
              refine CW.re _ hag rfl ?_
              have ho8 := ho7.ext hE78
              have hE48 := hE47.trans hE78
              have hs48 := hE48.size
              have hs7 := hE47.size
              have hW8 := hW2.ext (hE24.trans hE48)
              have hs24 := hE24.size
              have hE08 := hE14.trans hE48
              have hvoc : ∀ x, vo.ownBlock = some x → x ≠ c := fun x hx => by have := (ho7.1.lt x hx).2; have := ho7.1.2.1; omega
              refine CW.seq ?_
              refine CW.any (fun w' => VR w' c [up, ud]) [3, 4, 5, 7, 8] mixed rfl (hV8.ext (Ext.drew _)) ?_
              refine AL.y 0 rfl rfl (by kernel_rfl) (by kernel_rfl) (by kernel_rfl) rfl (y_loads ag31 rfl (fun _ hC => hC) rfl) ?_
              refine AL.y 1 rfl rfl (by kernel_rfl) (by kernel_rfl) (by kernel_rfl) rfl (y_mov (by conv => lhs; whnf)) ?_
              refine AL.y 2 rfl rfl (by kernel_rfl) (by kernel_rfl) (by kernel_rfl) rfl (y_mov (by conv => lhs; whnf)) ?_
              refine AL.one (i := 3) (by kernel_rfl) rfl rfl ?_ 
              intro hr hJ
              refine RL.call rfl (l01Own_any ((hu.ext hE08).ext (Ext.drew _)) (by omega)) ?_
              rintro vn w9 ⟨hon, hE9⟩
              have hE89 : Ext w8 w9 := (Ext.drew _).trans hE9
              refine RL.nil ?_
              refine Fin.al hr hJ (.inr (hV8.ext hE89)) ?_
              refine AL.one (i := 4) (by kernel_rfl) rfl rfl ?_ 
              intro hr hJ
              refine RL.lit1 rfl sT26 (slice_one hon.sv) rfl (fun vl w10 hol hE10 hbl => ?_)
              have hE810 := hE89.trans hE10
              refine RL.nil ?_
              refine Fin.al hr hJ (.inr (hV8.ext hE810)) ?_
              have ho10 := ho8.ext hE810
              refine AL.one (i := 5) (by kernel_rfl) rfl rfl ?_ 
              intro hr hJ
              refine RL.app rfl sT26 ho10.1.ov hol.sv (by simpa using slice_one hon.sv) (by simp; omega) (by simp; omega) (hE48.trans hE810).size rfl rfl (fun v11 w11 ho11 hg11 hn11 => ?_)
              have hV11 := (hV8.ext hE810).grown hg11 (fun e => hvoc c e rfl)
              have hpu := ho10.push ((hon.ext hE10).mono (by have := (Ext.drew w8).size; omega)) (fun b hb => by have := (hon.lt b hb).1; have := (Ext.drew w8).size; have := ho8.1.2.1; omega) ho11 hg11 (hn11.imp id (fun h => ⟨_, h, Nat.le_refl _⟩))
              refine RL.nil ?_
              refine Fin.al hr hJ (.inr hV11) ?_
              have hnbu : NB up vo := fun x h1 h2 => by have := (hU8.lt x h1).1; have := (ho7.1.lt x h2).2; have := ho7.1.2.1; omega
              have hnbd : NB ud vo := fun x h1 h2 => by have := (hD8.lt x h1).1; have := (ho7.1.lt x h2).2; have := ho7.1.2.1; omega
              have hU11 := ov_other (hU8.ext hE810) hg11 hnbu
              have hD11 := ov_other (hD8.ext hE810) hg11 hnbd
              refine AL.y 6 rfl rfl (by kernel_rfl) (by kernel_rfl) (by kernel_rfl) rfl (y_build bd33 rfl (fill_put (cs := [up, ud]) rfl rfl (Nat.le_of_ble_eq_true rfl) (fill_one (slice_one ho11.sv) rfl rfl fill_nil))) ?_
              have hs2 := hE12.size
              have hs1 := hE1.size
              have hl4 : w1.heap.size < w4.heap.size := by omega
              have hW11 := (hW8.ext hE810).grown hg11 (fun e => by have := (ho7.1.lt _ e).1; omega)
              refine AL.one (i := 7) (by kernel_rfl) rfl rfl ?_ 
              intro hr hJ
              refine RL.stores ag33 (hW11) rfl rfl rfl rfl ((show ([up, ud, v11] : List Value).all (·.oneCell') = true by simp [slice_one hU11.sv, slice_one hD11.sv, slice_one ho11.sv])) (fun w12 hW12 hg12 => ?_)
              replace hW12 : VR w12 w1.heap.size [up, ud, v11] := hW12
              have hs12 := hg12.size
              have hM12 : Mod w1.heap.size (w1.heap.size + 1) w11 w12 := grown_mod hg12 (fun k hk => by simp only [Option.some.injEq] at hk; omega)
              have hU12 := hU11.grown hg12 (.inl (fun e => by have := (hU8.lt _ e).1; omega))
              have hD12 := hD11.grown hg12 (.inl (fun e => by have := (hD8.lt _ e).1; omega))
              have hE011 : Ext w w11 := (hE08.trans hE810).grown hg11 (fun b hb => by have := (ho7.1.lt b hb).1; have := hE14.size; omega)
              have hE012 := hE011.then_mod hM12 hs1
              have hR12 := (OwN.ru ⟨_, hpu⟩).mod hM12 (by omega)
              refine RL.nil ?_
              refine Fin.al hr hJ (by first | exact .inl (by kernel_rfl) | (refine .inr ?_; assumption)) ?_
              refine AL.one (i := 8) (by kernel_rfl) rfl rfl ?_ 
              intro hr hJ
              refine RL.y rfl (y_asg rfl) ?_
              refine RL.nil ?_
              refine Fin.al hr hJ (by first | exact .inl (by kernel_rfl) | (refine .inr ?_; assumption)) ?_
              refine AL.nil (by kernel_rfl) ?_
              refine Fin.next ?_
              refine CW.ret ?_
              refine Fin.retct rfl ag33 rfl rfl (hW12) (by conv => lhs; whnf) ?_
              exact ⟨_, rfl, _, by rw [hyes], by rw [akV_yes hyes, akV_yes hyes, akV_yes hyes]; exact ⟨up, ud, v11, rfl, ⟨up, ud, rfl, hU12.sv, hD12.sv, (fun x hx => by have := hU12.lt x hx; omega), (fun x hx => by have := hD12.lt x hx; omega), Nat.le_refl _⟩, hR12.wide (by omega) hs12 (Nat.le_refl _)⟩, hE012⟩

theorem copyBuilding_any {w : World} {b : Value} {ps : List Int} {ds : List Bool} (hb : RdB w b ps ds) (hlen : ps.length + ds.length ≤ 1048576) :
    Does Try.prog 86 #[b] w (fun v' w' => OwB w' w.heap.size w'.heap.size v' ps ds ∧ Ext w w') := by
  obtain ⟨vp, vd, rfl, hp, hd⟩ := hb
  refine enter Try.func86 rfl 10 Try.ntmps86 rfl (by kernel_rfl) ?_
  refine CW.seq ?_
  refine CW.region ?_
  refine RL.box (cs := [vp, vd]) rfl rfl rfl (fun w1 hV1 hE1 => ?_)
  refine RL.alloc rfl ze31 (fun w2 hW2 hE2 => ?_)
  have hE12 := hE1.trans hE2
  have hs1 := hE1.size
  have hl2 := hW2.lt
  refine RL.nil ?_
  refine Fin.next ?_
  refine CW.seq ?_
  refine CW.any (Ext _) [2, 5, 7] mixed rfl (Ext.drew _) ?_
  refine AL.y 0 rfl rfl (by kernel_rfl) (by kernel_rfl) (by kernel_rfl) rfl (y_fa fa31_0 rfl rfl) ?_
  refine AL.y 1 rfl rfl (by kernel_rfl) (by kernel_rfl) (by kernel_rfl) rfl (y_loadv sc22 (fun _ hC => (hV1.ext hE2).ext hC) rfl rfl) ?_
  refine AL.y 3 rfl rfl (by kernel_rfl) (by kernel_rfl) (by kernel_rfl) rfl (y_fa fa31_1 rfl rfl) ?_
  refine AL.y 4 rfl rfl (by kernel_rfl) (by kernel_rfl) (by kernel_rfl) rfl (y_loadv sc23 (fun _ hC => (hV1.ext hE2).ext hC) rfl rfl) ?_
  refine AL.one (i := 2) (by kernel_rfl) rfl rfl ?_ 
  intro hr hJ
  refine RL.call rfl (CloneI_any ((hp.ext hE12).ext (Ext.drew _)) (by omega)) ?_
  rintro up w3 ⟨ho3, hE3⟩
  have hE23 : Ext w2 w3 := (Ext.drew _).trans hE3
  refine RL.nil ?_
  refine Fin.al hr hJ (.inr hE23) ?_
  refine AL.one (i := 5) (by kernel_rfl) rfl rfl ?_ 
  intro hr hJ
  refine RL.call rfl (CloneB_any (hd.ext (hE12.trans hE23)) (by omega)) ?_
  rintro ud w4 ⟨ho4, hE4⟩
  have hE24 := hE23.trans hE4
  refine RL.nil ?_
  refine Fin.al hr hJ (.inr hE24) ?_
  refine AL.y 6 rfl rfl (by kernel_rfl) (by kernel_rfl) (by kernel_rfl) rfl (y_build bd31 rfl (fill_one (slice_one ho3.sv) rfl rfl (fill_one (slice_one ho4.sv) rfl rfl fill_nil))) ?_
  refine AL.one (i := 7) (by kernel_rfl) rfl rfl ?_ 
  intro hr hJ
  refine RL.stores ag31 ((hW2.ext hE24)) rfl rfl rfl rfl ((show ([up, ud] : List Value).all (·.oneCell') = true by simp [slice_one ho3.sv, slice_one ho4.sv])) (fun w5 hW5 hg5 => ?_)
  replace hW5 : VR w5 w1.heap.size [up, ud] := hW5
  have hs5 := hg5.size
  have hsd := (Ext.drew w2).size
  have hs23 := hE23.size
  have hM5 : Mod w1.heap.size (w1.heap.size + 1) w4 w5 := grown_mod hg5 (fun k hk => by simp only [Option.some.injEq] at hk; omega)
  have hp5 := (ho3.ext hE4).grown hg5 (.inl (fun e => by have := (ho3.lt _ e).1; omega))
  have hd5 := ho4.grown hg5 (.inl (fun e => by have := (ho4.lt _ e).1; omega))
  have hE15 := (hE12.trans hE24).then_mod hM5 hs1
  refine RL.nil ?_
  refine Fin.al hr hJ (by first | exact .inl (by kernel_rfl) | (refine .inr ?_; assumption)) ?_
  refine AL.nil (by kernel_rfl) ?_
  refine Fin.next ?_
  refine CW.ret ?_
  refine Fin.retc rfl ag31 rfl rfl (hW5) ?_
  exact ⟨_, rfl, ⟨up, ud, rfl, ⟨hp5.mono (by omega), Nat.le_refl _, fun b hb => (hp5.lt b hb).2⟩, ⟨hd5.mono (by omega), Nat.le_refl _, fun b hb => (hd5.lt b hb).2⟩, (fun x h1 h2 => by have := (ho3.lt x h1).2; have := (ho4.lt x h2).1; omega)⟩, hE15⟩

theorem implAddKey_any {w : World} {v u : Value} {ps : List Int} {ds : List Bool} {rs : List (List Int)} {ns : List Int} (hp : RdP w v ps ds rs) (hu : SI w u ns) :
    Does Try.prog 32 #[v, u] w (fun r w' => ∃ v1, r = .tuple #[v1, .int .i64 (akC ps ds rs ns)] ∧ OwP w' w.heap.size w'.heap.size v1 (akV (akC ps ds rs ns) ps) (akV (akC ps ds rs ns) ds) (akV (akC ps ds rs ns) (rs ++ [ns])) ∧ Ext w w') := by
  have hp0 := hp
  obtain ⟨vp, vd, vr, rfl, hb, hr⟩ := hp
  obtain ⟨cs, hc⟩ := hr
  have hxl := hc.le
  refine enter Try.func32 rfl 51 Try.ntmps32 rfl (by kernel_rfl) ?_
  refine CW.seq ?_
  refine CW.region ?_
  refine RL.box (cs := [vp, vd, vr]) rfl rfl rfl (fun w1 hV1 hE1 => ?_)
  refine RL.alloc rfl ze33 (fun w2 hW2 hE2 => ?_)
  have hE12 := hE1.trans hE2
  have hs1 := hE1.size
  have hl2 := hW2.lt
  have hV2 := hV1.ext hE2
  refine RL.y rfl (y_asg rfl) ?_
  refine RL.nil ?_
  refine Fin.next ?_
  refine CW.seq ?_
  refine CW.seq ?_
  refine CW.region ?_
  refine RL.y rfl (y_loads ag33 rfl (eqw (hV2)) rfl) ?_
  refine RL.call rfl (implIsPlan_any (hp0.ext hE12)) ?_
  rintro r w3 ⟨rfl, hE3⟩
  have hE13 := hE12.trans hE3
  refine RL.y rfl (y_not rfl) ?_
  refine RL.nil ?_
  refine Fin.next ?_
  refine CW.cond rfl rfl (fun h1 => ?_) (fun h1 => ?_)
  · with_reducible first | (replace h1 := deNF h1) | (replace h1 := of_decide_eq_true h1) | (replace h1 := of_decide_eq_false h1) | (replace h1 := deNT h1) | (replace h1 := deNN h1) | (replace h1 := bnT h1) | (replace h1 := bnF h1) | skip
    have hno : akC ps ds rs ns = 1 := if_neg h1
    refine CW.seq ?_
    refine CW.region ?_
    refine RL.y rfl (y_build bd33 rfl fill_nil) ?_
    refine RL.stores ag33 ((hW2.ext hE3)) rfl rfl rfl rfl (rfl) (fun w4 hW4 hg4 => ?_)
    replace hW4 : VR w4 w1.heap.size [.slice none 0 0, .slice none 0 0, .slice none 0 0] := hW4
    have hE04 := hE13.grown hg4 (fun b hb => by have := hE1.size; simp only [Option.some.injEq] at hb; omega)
    refine RL.y rfl (y_asg rfl) ?_
    refine RL.nil ?_
    refine Fin.next ?_
    refine CW.ret ?_
    refine Fin.thenRet ?_
    refine Fin.retct rfl ag33 rfl rfl (hW4) (by conv => lhs; whnf) ?_
    exact ⟨_, rfl, _, by rw [hno], by rw [akV_no (by omega), akV_no (by omega), akV_no (by omega)]; exact OwP.nil _ _ hE04.size, hE04⟩
  · with_reducible first | (replace h1 := deNF h1) | (replace h1 := of_decide_eq_true h1) | (replace h1 := of_decide_eq_false h1) | (replace h1 := deNT h1) | (replace h1 := deNN h1) | (replace h1 := bnT h1) | (replace h1 := bnF h1) | skip
    have h24 := h1.1.1.1
    have hdl := h1.1.1.2.1
    have h10 := h1.2.1
    refine CW.skip ?_
    refine Fin.next ?_
    refine CW.seq ?_
    refine CW.seq ?_
    refine CW.region ?_
    refine RL.y rfl (y_fa fa33_0 rfl rfl) ?_
    refine RL.y rfl (y_loadp (ds := [vp, vd]) ag31 (eqw (hV2.ext hE3)) rfl rfl rfl) ?_
    refine RL.y rfl (y_mov (by conv => lhs; whnf)) ?_
    refine RL.call rfl (areRights_any (hb.ext hE13) (hu.ext hE13)) ?_
    rintro r w4 ⟨rfl, hE4⟩
    have hE14 := hE13.trans hE4
    have hE24 := hE3.trans hE4
    refine RL.y rfl (y_not rfl) ?_
    refine RL.nil ?_
    refine Fin.next ?_
    refine CW.cond rfl rfl (fun h2 => ?_) (fun h2 => ?_)
    · with_reducible first | (replace h2 := deNF h2) | (replace h2 := of_decide_eq_true h2) | (replace h2 := of_decide_eq_false h2) | (replace h2 := deNT h2) | (replace h2 := deNN h2) | (replace h2 := bnT h2) | (replace h2 := bnF h2) | skip
      have hno : akC ps ds rs ns = 2 := by unfold akC; rw [if_pos h1, if_neg h2]
      refine CW.seq ?_
      refine CW.region ?_
      refine RL.y rfl (y_build bd33 rfl fill_nil) ?_
      refine RL.stores ag33 ((hW2.ext hE24)) rfl rfl rfl rfl (rfl) (fun w5 hW4 hg4 => ?_)
      replace hW4 : VR w5 w1.heap.size [.slice none 0 0, .slice none 0 0, .slice none 0 0] := hW4
      have hE04 := hE14.grown hg4 (fun b hb => by have := hE1.size; simp only [Option.some.injEq] at hb; omega)
      refine RL.y rfl (y_asg rfl) ?_
      refine RL.nil ?_
      refine Fin.next ?_
      refine CW.ret ?_
      refine Fin.thenRet ?_
      refine Fin.retct rfl ag33 rfl rfl (hW4) (by conv => lhs; whnf) ?_
      exact ⟨_, rfl, _, by rw [hno], by rw [akV_no (by omega), akV_no (by omega), akV_no (by omega)]; exact OwP.nil _ _ hE04.size, hE04⟩
    · with_reducible first | (replace h2 := deNF h2) | (replace h2 := of_decide_eq_true h2) | (replace h2 := of_decide_eq_false h2) | (replace h2 := deNT h2) | (replace h2 := deNN h2) | (replace h2 := bnT h2) | (replace h2 := bnF h2) | skip
      have hnl := rises_len h2.2
      refine CW.skip ?_
      refine Fin.next ?_
      refine CW.seq ?_
      refine CW.seq ?_
      refine CW.region ?_
      refine RL.y rfl (y_fa fa33_1 rfl rfl) ?_
      refine RL.y rfl (y_loadv sc26 (eqw (hV2.ext hE24)) rfl rfl) ?_
      refine RL.y rfl (y_len sT26 hc.1 hc.2.1 rfl) ?_
      refine RL.y rfl (y_eq rfl rfl) ?_
      refine RL.nil ?_
      refine Fin.next ?_
      refine CW.cond rfl rfl (fun h3 => ?_) (fun h3 => ?_)
      · with_reducible first | (replace h3 := deNF h3) | (replace h3 := of_decide_eq_true h3) | (replace h3 := of_decide_eq_false h3) | (replace h3 := deNT h3) | (replace h3 := deNN h3) | (replace h3 := bnT h3) | (replace h3 := bnF h3) | skip
        have hno : akC ps ds rs ns = 3 := by unfold akC; rw [if_pos h1, if_pos h2, if_pos (by omega)]
        refine CW.seq ?_
        refine CW.region ?_
        refine RL.y rfl (y_build bd33 rfl fill_nil) ?_
        refine RL.stores ag33 ((hW2.ext hE24)) rfl rfl rfl rfl (rfl) (fun w5 hW4 hg4 => ?_)
        replace hW4 : VR w5 w1.heap.size [.slice none 0 0, .slice none 0 0, .slice none 0 0] := hW4
        have hE04 := hE14.grown hg4 (fun b hb => by have := hE1.size; simp only [Option.some.injEq] at hb; omega)
        refine RL.y rfl (y_asg rfl) ?_
        refine RL.nil ?_
        refine Fin.next ?_
        refine CW.ret ?_
        refine Fin.thenRet ?_
        refine Fin.retct rfl ag33 rfl rfl (hW4) (by conv => lhs; whnf) ?_
        exact ⟨_, rfl, _, by rw [hno], by rw [akV_no (by omega), akV_no (by omega), akV_no (by omega)]; exact OwP.nil _ _ hE04.size, hE04⟩
      · with_reducible first | (replace h3 := deNF h3) | (replace h3 := of_decide_eq_true h3) | (replace h3 := of_decide_eq_false h3) | (replace h3 := deNT h3) | (replace h3 := deNN h3) | (replace h3 := bnT h3) | (replace h3 := bnF h3) | skip
        have hyes : akC ps ds rs ns = 0 := by unfold akC; rw [if_pos h1, if_pos h2, if_neg (by omega)]
        have hs24 := hE24.size
        refine CW.skip ?_
        refine Fin.next ?_
        refine CW.seq ?_
        refine CW.region ?_
        refine RL.y rfl (y_fa fa33_0 rfl rfl) ?_
        refine RL.y rfl (y_loadp (ds := [vp, vd]) ag31 (eqw (hV2.ext hE24)) rfl rfl rfl) ?_
        refine RL.call rfl (copyBuilding_any (hb.ext hE14) (by omega)) ?_
        rintro vb w5 ⟨hB5, hE5⟩
        obtain ⟨up, ud, rfl, hu5, hd5, hnb⟩ := hB5
        have hB5 : OwB w5 w4.heap.size w5.heap.size (.agg #[up, ud]) ps ds := ⟨up, ud, rfl, hu5, hd5, hnb⟩
        have hE25 := hE24.trans hE5
        refine RL.y rfl (y_build bd33 rfl (fill_put (cs := [up, ud]) rfl rfl (Nat.le_of_ble_eq_true rfl) fill_nil)) ?_
        refine RL.alloc rfl ze33 (fun w6 hX6 hE6 => ?_)
        refine RL.stores ag33 (hX6) rfl rfl rfl rfl ((show ([up, ud, .slice none 0 0] : List Value).all (·.oneCell') = true by simp only [List.all_cons, List.all_nil, slice_one hu5.sv, slice_one hd5.sv, Bool.and_true, Bool.true_and]; rfl)) (fun w7 hX7 hg7 => ?_)
        replace hX7 : VR w7 w5.heap.size [up, ud, .slice none 0 0] := hX7
        have hE57 : Ext w5 w7 := hE6.grown hg7 (fun b hb => by simp only [Option.some.injEq] at hb; omega)
        have hl7 := hX7.lt
        have hE27 := hE25.trans hE57
        have hE17 := hE12.trans hE27
        have hs45 := hE5.size
        refine RL.nil ?_
        refine Fin.next ?_
        refine CW.seq ?_
        refine CW.seq ?_
        refine CW.region ?_
        refine RL.y rfl (y_fa fa33_1 rfl rfl) ?_
        refine RL.y rfl (y_loadv sc26 (eqw (hV2.ext hE27)) rfl rfl) ?_
        refine RL.y rfl (y_len sT26 hc.1 hc.2.1 rfl) ?_
        refine RL.y rfl (y_mov rfl) ?_
        refine RL.nil ?_
        refine Fin.next ?_
        refine CW.block ?_
        refine CW.loop (fun q E w' => ∃ (k : Nat) (vo : Value) (cv : List Value) (U : Nat), q = rs.length - k ∧ k ≤ rs.length ∧ agrees E [(1, u), (2, .pointer (some ⟨w.heap.size, 0, none⟩)), (4, .pointer (some ⟨w1.heap.size, 0, none⟩)), (6, .pointer (some ⟨w5.heap.size, 0, none⟩)), (29, vr), (30, .int .i64 rs.length), (31, .int .i64 (k : Int))] ∧ VR w' w5.heap.size [up, ud, vo] ∧ OwC ints 2 22 w' w7.heap.size U vo cv (rs.take k) ∧ Ext w5 w' ∧ w7.heap.size ≤ w'.heap.size) _ (⟨0, _, [], _, rfl, Nat.zero_le _, ⟨rfl, rfl, rfl, rfl, rfl, rfl, rfl, trivial⟩, hX7, OwC.nil (OV.nil _ _ _), hE57, Nat.le_refl _⟩) ?_
        · rintro q E w8 ⟨k, vo, cv, U, rfl, hk, hag, hX8, ho8, hE58, hs78⟩
          refine CW.re _ hag rfl ?_
          have hE18 := (hE12.trans hE25).trans hE58
          have hcl := ho8.2.1
          rw [List.length_take] at hcl
          have hvoc : vo.ownBlock ≠ some w5.heap.size := fun e => by have := (ho8.1.lt _ e).1; omega
          refine CW.seq ?_
          refine CW.region ?_
          refine RL.y rfl (y_lt rfl rfl) ?_
          refine RL.nil ?_
          refine Fin.next ?_
          refine CW.seq ?_
          refine CW.cond rfl rfl (fun hck => ?_) (fun hck => ?_)
          · with_reducible first | (replace hck := deNF hck) | (replace hck := of_decide_eq_true hck) | (replace hck := of_decide_eq_false hck) | (replace hck := deNT hck) | (replace hck := deNN hck) | (replace hck := bnT hck) | (replace hck := bnF hck) | skip
            have hlt : k < rs.length := by omega
            have hrl := rises_len (h1.2.2 _ (List.getElem_mem hlt)).2
            have hU := ho8.1.2.1
            refine CW.skip ?_
            refine Fin.next ?_
            refine CW.seq ?_
            refine CW.block ?_
            refine CW.seq ?_
            refine CW.region ?_
            refine RL.y rfl (y_ixa sT26 (eqw (hc.1.ext hE18)) (k := k) (hc.lt hlt) rfl rfl) ?_
            refine RL.y rfl (y_load sc22 (eqw (hc.1.ext hE18)) (hc.at hlt) rfl) ?_
            refine RL.y rfl (y_asg (by conv => lhs; whnf)) ?_
            refine RL.nil ?_
            refine Fin.next ?_
            refine CW.any (fun w' => VR w' w5.heap.size [up, ud, vo]) [3, 4, 5, 7] mixed rfl (hX8.ext (Ext.drew _)) ?_
            refine AL.y 0 rfl rfl (by kernel_rfl) (by kernel_rfl) (by kernel_rfl) rfl (y_fa fa33_1 rfl rfl) ?_
            refine AL.y 1 rfl rfl (by kernel_rfl) (by kernel_rfl) (by kernel_rfl) rfl (y_loadv sc26 (fun _ hC => hC) rfl rfl) ?_
            refine AL.y 2 rfl rfl (by kernel_rfl) (by kernel_rfl) (by kernel_rfl) rfl (y_mov (by conv => lhs; whnf)) ?_
            refine AL.one (i := 3) (by kernel_rfl) rfl rfl ?_ 
            intro hr hJ
            refine RL.call rfl (CloneI_any (((hc.row hlt).ext hE18).ext (Ext.drew _)) (by omega)) ?_
            rintro vw w9 ⟨ho9, hE9⟩
            have hE89 : Ext w8 w9 := (Ext.drew _).trans hE9
            refine RL.nil ?_
            refine Fin.al hr hJ (.inr (hX8.ext hE89)) ?_
            refine AL.one (i := 4) (by kernel_rfl) rfl rfl ?_ 
            intro hr hJ
            refine RL.lit1 rfl sT26 (slice_one ho9.sv) rfl (fun vl w10 hol hE10 hbl => ?_)
            have hE810 := hE89.trans hE10
            refine RL.nil ?_
            refine Fin.al hr hJ (.inr (hX8.ext hE810)) ?_
            have ho10 := ho8.ext hE810
            have hs810 := hE810.size
            refine AL.one (i := 5) (by kernel_rfl) rfl rfl ?_ 
            intro hr hJ
            refine RL.app rfl sT26 ho10.1.ov hol.sv (by simpa using slice_one ho9.sv) (by simp; omega) (by simp; omega) (by omega) rfl rfl (fun v11 w11 ho11 hg11 hn11 => ?_)
            have hX11 := (hX8.ext hE810).grown hg11 hvoc
            have hpu := ho10.push ((ho9.ext hE10).mono (by have := (Ext.drew w8).size; omega)) (fun b hb => by have := (ho9.lt b hb).1; have := (Ext.drew w8).size; omega) ho11 hg11 (hn11.imp id (fun h => ⟨_, h, Nat.le_refl _⟩))
            rw [← List.take_succ_eq_append_getElem hlt] at hpu
            have hE511 : Ext w5 w11 := (hE58.trans hE810).grown hg11 (fun b hb => by have := (ho8.1.lt b hb).1; omega)
            have hs11 := hg11.size
            refine RL.nil ?_
            refine Fin.al hr hJ (.inr hX11) ?_
            refine AL.y 6 rfl rfl (by kernel_rfl) (by kernel_rfl) (by kernel_rfl) rfl (y_fa fa33_1 rfl rfl) ?_
            refine AL.one (i := 7) (by kernel_rfl) rfl rfl ?_ 
            intro hr hJ
            refine RL.storev so26 (hX11) (by simp) rfl rfl (slice_one ho11.sv) (fun w12 hX12 hg12 => ?_)
            replace hX12 : VR w12 w5.heap.size [up, ud, v11] := hX12
            have hs12 := hg12.size
            have hM12 : Mod w5.heap.size (w5.heap.size + 1) w11 w12 := grown_mod hg12 (fun k hk => by simp only [Option.some.injEq] at hk; omega)
            have hpu12 := hpu.mod hM12 (by omega)
            have hE512 := hE511.then_mod hM12 (Nat.le_refl _)
            refine RL.nil ?_
            refine Fin.al hr hJ (by first | exact .inl (by kernel_rfl) | (refine .inr ?_; assumption)) ?_
            refine AL.nil (by kernel_rfl) ?_
            refine Fin.blockNormal ?_
            refine Fin.next ?_
            refine CW.region ?_
            refine RL.y rfl (y_add rfl rfl (IntWalk.i64_in _ (by omega))) ?_
            refine RL.y rfl (y_mov (v := .int _ _) rfl) ?_
            refine RL.nil ?_
            refine Fin.le ?_
            exact ⟨rs.length - (k + 1), by omega, k + 1, v11, _, _, rfl, hlt, ⟨rfl, rfl, rfl, rfl, rfl, rfl, rfl, trivial⟩, hX12, hpu12, hE512, by omega⟩
          · with_reducible first | (replace hck := deNF hck) | (replace hck := of_decide_eq_true hck) | (replace hck := of_decide_eq_false hck) | (replace hck := deNT hck) | (replace hck := deNN hck) | (replace hck := bnT hck) | (replace hck := bnF hck) | skip
            obtain rfl : k = rs.length := by omega
            rw [List.take_length] at ho8
            refine CW.exit ?_
            refine Fin.thenExit ?_
            refine Fin.thenExit ?_
            refine Fin.blockHit ?_
            refine Fin.next ?_
            refine CW.seq ?_
            refine CW.any (fun w' => VR w' w5.heap.size [up, ud, vo]) [3, 4, 5, 7] mixed rfl (hX8.ext (Ext.drew _)) ?_
            refine AL.y 0 rfl rfl (by kernel_rfl) (by kernel_rfl) (by kernel_rfl) rfl (y_fa fa33_1 rfl rfl) ?_
            refine AL.y 1 rfl rfl (by kernel_rfl) (by kernel_rfl) (by kernel_rfl) rfl (y_loadv sc26 (fun _ hC => hC) rfl rfl) ?_
            refine AL.y 2 rfl rfl (by kernel_rfl) (by kernel_rfl) (by kernel_rfl) rfl (y_mov (by conv => lhs; whnf)) ?_
            refine AL.one (i := 3) (by kernel_rfl) rfl rfl ?_ 
            intro hr hJ
            refine RL.call rfl (CloneI_any ((hu.ext hE18).ext (Ext.drew _)) (by omega)) ?_
            rintro vw w9 ⟨ho9, hE9⟩
            have hE89 : Ext w8 w9 := (Ext.drew _).trans hE9
            refine RL.nil ?_
            refine Fin.al hr hJ (.inr (hX8.ext hE89)) ?_
            refine AL.one (i := 4) (by kernel_rfl) rfl rfl ?_ 
            intro hr hJ
            refine RL.lit1 rfl sT26 (slice_one ho9.sv) rfl (fun vl w10 hol hE10 hbl => ?_)
            have hE810 := hE89.trans hE10
            refine RL.nil ?_
            refine Fin.al hr hJ (.inr (hX8.ext hE810)) ?_
            have ho10 := ho8.ext hE810
            have hs810 := hE810.size
            have hU := ho8.1.2.1
            refine AL.one (i := 5) (by kernel_rfl) rfl rfl ?_ 
            intro hr hJ
            refine RL.app rfl sT26 ho10.1.ov hol.sv (by simpa using slice_one ho9.sv) (by simp; omega) (by simp; omega) (by omega) rfl rfl (fun v11 w11 ho11 hg11 hn11 => ?_)
            have hX11 := (hX8.ext hE810).grown hg11 hvoc
            have hpu := ho10.push ((ho9.ext hE10).mono (by have := (Ext.drew w8).size; omega)) (fun b hb => by have := (ho9.lt b hb).1; have := (Ext.drew w8).size; omega) ho11 hg11 (hn11.imp id (fun h => ⟨_, h, Nat.le_refl _⟩))
            have hE511 : Ext w5 w11 := (hE58.trans hE810).grown hg11 (fun b hb => by have := (ho8.1.lt b hb).1; omega)
            have hs11 := hg11.size
            refine RL.nil ?_
            refine Fin.al hr hJ (.inr hX11) ?_
            refine AL.y 6 rfl rfl (by kernel_rfl) (by kernel_rfl) (by kernel_rfl) rfl (y_fa fa33_1 rfl rfl) ?_
            refine AL.one (i := 7) (by kernel_rfl) rfl rfl ?_ 
            intro hr hJ
            refine RL.storev so26 (hX11) (by simp) rfl rfl (slice_one ho11.sv) (fun w12 hX12 hg12 => ?_)
            replace hX12 : VR w12 w5.heap.size [up, ud, v11] := hX12
            have hs12 := hg12.size
            have hM12 : Mod w5.heap.size (w5.heap.size + 1) w11 w12 := grown_mod hg12 (fun k hk => by simp only [Option.some.injEq] at hk; omega)
            have hpu12 := hpu.mod hM12 (by omega)
            have hE512 := hE511.then_mod hM12 (Nat.le_refl _)
            have hW12 := hW2.ext (hE25.trans hE512)
            refine RL.nil ?_
            refine Fin.al hr hJ (by first | exact .inl (by kernel_rfl) | (refine .inr ?_; assumption)) ?_
            refine AL.nil (by kernel_rfl) ?_
            refine Fin.next ?_
            refine CW.seq ?_
            refine CW.region ?_
            refine RL.y rfl (y_loads ag33 rfl (eqw (hX12)) rfl) ?_
            refine RL.stores ag33 (hW12) rfl rfl rfl rfl ((show ([up, ud, v11] : List Value).all (·.oneCell') = true by simp [slice_one hu5.sv, slice_one hd5.sv, slice_one ho11.sv])) (fun w13 hW13 hg13 => ?_)
            replace hW13 : VR w13 w1.heap.size [up, ud, v11] := hW13
            have hs13 := hg13.size
            have hM13 : Mod w1.heap.size (w1.heap.size + 1) w12 w13 := grown_mod hg13 (fun k hk => by simp only [Option.some.injEq] at hk; omega)
            have hB13 := (hB5.ext hE512).mod hM13 (by omega)
            have hR13 : OwSS w13 w7.heap.size w11.heap.size v11 (rs ++ [ns]) := (show OwSS w12 w7.heap.size w11.heap.size v11 (rs ++ [ns]) from ⟨_, hpu12⟩).mod hM13 (by omega)
            have hE013 := ((hE12.trans hE25).trans hE512).then_mod hM13 hs1
            have hs14 := hE14.size
            refine RL.y rfl (y_asg rfl) ?_
            refine RL.nil ?_
            refine Fin.next ?_
            refine CW.ret ?_
            refine Fin.retct rfl ag33 rfl rfl (hW13) (by conv => lhs; whnf) ?_
            exact ⟨_, rfl, _, by rw [hyes], by rw [akV_yes hyes, akV_yes hyes, akV_yes hyes]; exact ⟨up, ud, v11, w7.heap.size, rfl, (by obtain ⟨a, b, e, h1, h2, h3⟩ := hB13; exact ⟨a, b, e, h1.wide (by omega) (by omega) (by omega), h2.wide (by omega) (by omega) (by omega), h3⟩), hR13.wide (Nat.le_refl _) (by omega) (Nat.le_refl _), by omega, by omega⟩, hE013⟩
end Go.Proofs.Ytkkeipogkjlneaa
