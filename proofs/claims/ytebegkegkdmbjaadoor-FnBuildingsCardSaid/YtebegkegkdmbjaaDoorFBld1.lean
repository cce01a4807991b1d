/-
  Buildings: helpers of the laws, IsBuilding, the ways up.
-/
import Derived.Test.YtebegkegkdmbjaaDoorFNum
import Derived.Test.YtebegkegkdmbjaaDoorFNest
import Derived.Test.YtebegkegkdmbjaaDoorFBools
import Derived.Test.YtebegkegkdmbjaaDoorBld
import Derived.Test.YtebegkegkdmbjaaDoorTape
namespace Go.Proofs.YtebegkegkdmbjaaDoor
open B Go.RowKit

def RdB (w : World) (b : Value) (ps : List Int) (ds : List Bool) : Prop := ∃ vp vd, b = .agg #[vp, vd] ∧ SI w vp ps ∧ SB w vd ds
def OwB (w : World) (B U : Nat) (b : Value) (ps : List Int) (ds : List Bool) : Prop := ∃ vp vd, b = .agg #[vp, vd] ∧ OU w B U 2 vp (ints ps) ∧ OU w B U 4 vd (bools ds) ∧ NB vp vd
theorem RdB.ext {w w' : World} {b : Value} {ps : List Int} {ds : List Bool} (h : RdB w b ps ds) (he : Ext w w') : RdB w' b ps ds := by
  obtain ⟨vp, vd, e, h1, h2⟩ := h; exact ⟨vp, vd, e, h1.ext he, h2.ext he⟩
theorem OwB.of {w : World} {B U : Nat} {b : Value} {ps : List Int} {ds : List Bool} (h : OwB w B U b ps ds) : OwB w B U b ps ds := h
theorem OwB.one {w : World} {B U : Nat} {a b : Value} {ps : List Int} {ds : List Bool} (h : OwB w B U (.agg #[a, b]) ps ds) : ([a, b] : List Value).all (·.oneCell') = true := by
  obtain ⟨vp, vd, e, h1, h2, _⟩ := h
  have e2 : a = vp ∧ b = vd := by simpa using e
  obtain ⟨rfl, rfl⟩ := e2
  simp [slice_one h1.sv, slice_one h2.sv]
theorem OwB.rd {w : World} {B U : Nat} {b : Value} {ps : List Int} {ds : List Bool} (h : OwB w B U b ps ds) : RdB w b ps ds := by
  obtain ⟨vp, vd, e, h1, h2, _⟩ := h; exact ⟨vp, vd, e, h1.sv, h2.sv⟩
theorem OwB.ext {w w' : World} {B U : Nat} {b : Value} {ps : List Int} {ds : List Bool} (h : OwB w B U b ps ds) (he : Ext w w') : OwB w' B U b ps ds := by
  obtain ⟨vp, vd, e, h1, h2, h3⟩ := h; exact ⟨vp, vd, e, h1.ext he, h2.ext he, h3⟩
theorem OwB.mod {w w' : World} {B U B' U' : Nat} {b : Value} {ps : List Int} {ds : List Bool} (h : OwB w B U b ps ds) (hm : Mod B' U' w w') (hd : U ≤ B' ∨ U' ≤ B) : OwB w' B U b ps ds := by
  obtain ⟨vp, vd, e, h1, h2, h3⟩ := h; exact ⟨vp, vd, e, h1.mod hm hd, h2.mod hm hd, h3⟩

def RuB (w : World) (B U : Nat) (b : Value) (ps : List Int) (ds : List Bool) : Prop := ∃ vp vd, b = .agg #[vp, vd] ∧ SI w vp ps ∧ SB w vd ds ∧ InB B U vp ∧ InB B U vd ∧ U ≤ w.heap.size
theorem RuB.rd {w : World} {B U : Nat} {b : Value} {ps : List Int} {ds : List Bool} (h : RuB w B U b ps ds) : RdB w b ps ds := by
  obtain ⟨vp, vd, e, h1, h2, _⟩ := h; exact ⟨vp, vd, e, h1, h2⟩
theorem RuB.ext {w w' : World} {B U : Nat} {b : Value} {ps : List Int} {ds : List Bool} (h : RuB w B U b ps ds) (he : Ext w w') : RuB w' B U b ps ds := by
  obtain ⟨vp, vd, e, h1, h2, h3, h4, h5⟩ := h; exact ⟨vp, vd, e, h1.ext he, h2.ext he, h3, h4, Nat.le_trans h5 he.size⟩
theorem RuB.mod {w w' : World} {B U B' U' : Nat} {b : Value} {ps : List Int} {ds : List Bool} (h : RuB w B U b ps ds) (hm : Mod B' U' w w') (hd : U ≤ B' ∨ U' ≤ B) : RuB w' B U b ps ds := by
  obtain ⟨vp, vd, e, h1, h2, h3, h4, h5⟩ := h; exact ⟨vp, vd, e, SV.mod' h1 h3 hm hd, SV.mod' h2 h4 hm hd, h3, h4, Nat.le_trans h5 hm.size⟩
theorem OwB.ru {w : World} {B U : Nat} {b : Value} {ps : List Int} {ds : List Bool} (h : OwB w B U b ps ds) : RuB w B U b ps ds := by
  obtain ⟨vp, vd, e, h1, h2, _⟩ := h; exact ⟨vp, vd, e, h1.sv, h2.sv, h1.lt, h2.lt, h1.2.1⟩
theorem RuB.wide {w : World} {B U B' U' : Nat} {b : Value} {ps : List Int} {ds : List Bool} (h : RuB w B U b ps ds) (h1 : B' ≤ B) (h2 : U ≤ U') (h3 : U' ≤ w.heap.size) : RuB w B' U' b ps ds := by
  obtain ⟨vp, vd, e, a1, a2, a3, a4, a5⟩ := h
  exact ⟨vp, vd, e, a1, a2, (fun x hx => by have := a3 x hx; omega), (fun x hx => by have := a4 x hx; omega), h3⟩
theorem RuB.of {w : World} {B U : Nat} {b : Value} {ps : List Int} {ds : List Bool} (h : RuB w B U b ps ds) : RuB w B U b ps ds := h
theorem RuB.one {w : World} {B U : Nat} {a b : Value} {ps : List Int} {ds : List Bool} (h : RuB w B U (.agg #[a, b]) ps ds) : ([a, b] : List Value).all (·.oneCell') = true := by
  obtain ⟨vp, vd, e, h1, h2, _⟩ := h
  have e2 : a = vp ∧ b = vd := by simpa using e
  obtain ⟨rfl, rfl⟩ := e2
  simp [slice_one h1, slice_one h2]

theorem szBuilding_any {w : World} {b : Value} {ps : List Int} {ds : List Bool} {left : Int} (hb : RdB w b ps ds) (h0 : 0 ≤ left) (h1 : left ≤ 1048576) :
    Does Tryd.prog 18 #[b, .int .i64 left] w (fun r w' => r = .int .i64 (szV (ps.length + ds.length) left) ∧ Ext w w') := by
  obtain ⟨vp, vd, rfl, hp, hd⟩ := hb
  refine enter Tryd.func18 rfl 18 Tryd.ntmps18 rfl (by kernel_rfl) ?_
  refine CW.seq ?_
  refine CW.region ?_
  refine RL.box (cs := [vp, vd]) rfl rfl rfl (fun w1 hV hE1 => ?_)
  refine RL.y rfl (y_asg rfl) ?_
  refine RL.nil ?_
  refine Fin.next ?_
  refine CW.seq ?_
  refine CW.region ?_
  refine RL.y rfl (y_fa fa38_0 rfl rfl) ?_
  refine RL.y rfl (y_loadv sc22 (eqw (hV)) rfl rfl) ?_
  refine RL.y rfl (y_mov (v := .int _ _) rfl) ?_
  refine RL.call rfl (szInt64S_any (hp.ext hE1) h0 h1) ?_
  rintro r w2 ⟨rfl, rfl⟩
  refine RL.y rfl (y_asg (v := .int _ _) rfl) ?_
  refine RL.nil ?_
  refine Fin.next ?_
  refine CW.seq ?_
  refine CW.seq ?_
  refine CW.region ?_
  refine RL.y rfl (y_mov (v := .int _ _) rfl) ?_
  refine RL.y rfl (y_lt rfl rfl) ?_
  refine RL.nil ?_
  refine Fin.next ?_
  refine CW.cond rfl rfl (fun hc => ?_) (fun hc => ?_)
  · with_reducible first | (replace hc := deNF hc) | (replace hc := of_decide_eq_true hc) | (replace hc := of_decide_eq_false hc) | (replace hc := deNT hc) | (replace hc := deNN hc) | (replace hc := bnT hc) | (replace hc := bnF hc) | skip
    have hno : left - (ps.length : Nat) < 0 := Classical.byContradiction fun h => by rw [szV_yes h] at hc; omega
    refine CW.seq ?_
    refine CW.region ?_
    refine RL.y rfl (y_asg rfl) ?_
    refine RL.nil ?_
    refine Fin.next ?_
    refine CW.ret ?_
    refine Fin.thenRet ?_
    refine Fin.ret1 rfl (by conv => lhs; whnf) ?_
    exact ⟨_, rfl, by rw [szV_no (by omega)], hE1⟩
  · with_reducible first | (replace hc := deNF hc) | (replace hc := of_decide_eq_true hc) | (replace hc := of_decide_eq_false hc) | (replace hc := deNT hc) | (replace hc := deNN hc) | (replace hc := bnT hc) | (replace hc := bnF hc) | skip
    obtain ⟨hge, hval⟩ := szV_ok hc
    rw [hval]
    refine CW.skip ?_
    refine Fin.next ?_
    refine CW.seq ?_
    refine CW.region ?_
    refine RL.y rfl (y_fa fa38_1 rfl rfl) ?_
    refine RL.y rfl (y_loadv sc23 (eqw (hV)) rfl rfl) ?_
    refine RL.y rfl (y_mov (v := .int _ _) rfl) ?_
    refine RL.call rfl (szBoolS_any (hd.ext hE1) (by omega) (by omega)) ?_
    rintro r w2 ⟨rfl, rfl⟩
    refine RL.y rfl (y_asg (v := .int _ _) rfl) ?_
    refine RL.nil ?_
    refine Fin.next ?_
    refine CW.seq ?_
    refine CW.seq ?_
    refine CW.region ?_
    refine RL.y rfl (y_mov (v := .int _ _) rfl) ?_
    refine RL.y rfl (y_lt rfl rfl) ?_
    refine RL.nil ?_
    refine Fin.next ?_
    refine CW.cond rfl rfl (fun hc2 => ?_) (fun hc2 => ?_)
    · with_reducible first | (replace hc2 := deNF hc2) | (replace hc2 := of_decide_eq_true hc2) | (replace hc2 := of_decide_eq_false hc2) | (replace hc2 := deNT hc2) | (replace hc2 := deNN hc2) | (replace hc2 := bnT hc2) | (replace hc2 := bnF hc2) | skip
      have hno : left - (ps.length : Nat) - (ds.length : Nat) < 0 := Classical.byContradiction fun h => by rw [szV_yes h] at hc2; omega
      refine CW.seq ?_
      refine CW.region ?_
      refine RL.y rfl (y_asg rfl) ?_
      refine RL.nil ?_
      refine Fin.next ?_
      refine CW.ret ?_
      refine Fin.thenRet ?_
      refine Fin.ret1 rfl (by conv => lhs; whnf) ?_
      exact ⟨_, rfl, by rw [szV_no (by omega)], hE1⟩
    · with_reducible first | (replace hc2 := deNF hc2) | (replace hc2 := of_decide_eq_true hc2) | (replace hc2 := of_decide_eq_false hc2) | (replace hc2 := deNT hc2) | (replace hc2 := deNN hc2) | (replace hc2 := bnT hc2) | (replace hc2 := bnF hc2) | skip
      obtain ⟨hge2, hval2⟩ := szV_ok hc2
      refine CW.skip ?_
      refine Fin.next ?_
      refine CW.seq ?_
      refine CW.region ?_
      refine RL.y rfl (y_mov (v := .int _ _) rfl) ?_
      refine RL.y rfl (y_asg (v := .int _ _) rfl) ?_
      refine RL.nil ?_
      refine Fin.next ?_
      refine CW.ret ?_
      refine Fin.ret1 rfl (by conv => lhs; whnf) ?_
      exact ⟨_, rfl, by rw [hval2, szV_yes (by omega)]; congr 1; omega, hE1⟩

theorem toBuilding_any {w : World} {b : Value} {ps : List Int} {ds : List Bool} (hb : RdB w b ps ds) (hlen : ps.length + ds.length ≤ 1048576) :
    Does Tryd.prog 19 #[b] w (fun v' w' => OwB w' w.heap.size w'.heap.size v' ps ds ∧ Ext w w') := by
  obtain ⟨vp, vd, rfl, hp, hd⟩ := hb
  refine enter Tryd.func19 rfl 13 Tryd.ntmps19 rfl (by kernel_rfl) ?_
  refine CW.seq ?_
  refine CW.region ?_
  refine RL.box (cs := [vp, vd]) rfl rfl rfl (fun w1 hV1 hE1 => ?_)
  refine RL.alloc rfl ze25 (fun w2 hV2 hE2 => ?_)
  refine RL.nil ?_
  refine Fin.next ?_
  refine CW.seq ?_
  refine CW.region ?_
  refine RL.alloc rfl ze25 (fun w3 hV3 hE3 => ?_)
  have hl1 := hV1.lt
  have hl2 := hV2.lt
  have hl3 := hV3.lt
  have hE13 := (hE1.trans hE2).trans hE3
  refine RL.nil ?_
  refine Fin.next ?_
  refine CW.seq ?_
  refine CW.region ?_
  refine RL.y rfl (y_fa fa38_0 rfl rfl) ?_
  refine RL.y rfl (y_loadv sc22 (eqw ((hV1.ext hE2).ext hE3)) rfl rfl) ?_
  refine RL.call rfl (toInt64S_any (hp.ext hE13) (by omega)) ?_
  rintro up w4 ⟨ho4, hE4, hb4⟩
  refine RL.y rfl (y_fa fa25_0 rfl rfl) ?_
  refine RL.storev so22 (hV3.ext hE4) (by simp) rfl rfl (slice_one ho4.sv) (fun w5 hV5 hg5 => ?_)
  replace hV5 : VR w5 w2.heap.size [up, .slice none 0 0] := hV5
  have hs4 := hE4.size
  have hl4 := (ho4.lt _ hb4).2
  have hV1' := (((hV1.ext hE2).ext hE3).ext hE4).grown hg5 (fun e => by simp only [Option.some.injEq] at e; omega)
  have hV2' := ((hV2.ext hE3).ext hE4).grown hg5 (fun e => by simp only [Option.some.injEq] at e; omega)
  have hE15 : Ext w w5 := (hE13.trans hE4).grown hg5 (fun b hb => by simp only [Option.some.injEq] at hb; omega)
  have ho5 := ho4.grown hg5 (.inl (by rw [hb4]; intro e; simp only [Option.some.injEq] at e; omega))
  have hs5 := hg5.size
  refine RL.nil ?_
  refine Fin.next ?_
  refine CW.seq ?_
  refine CW.region ?_
  refine RL.y rfl (y_fa fa38_1 rfl rfl) ?_
  refine RL.y rfl (y_loadv sc23 (eqw (hV1')) rfl rfl) ?_
  refine RL.call rfl (toBoolS_any (hd.ext hE15) (by omega)) ?_
  rintro ud w6 ⟨ho6, hE6, hb6⟩
  refine RL.y rfl (y_fa fa25_1 rfl rfl) ?_
  refine RL.storev so23 (hV5.ext hE6) (by simp) rfl rfl (slice_one ho6.sv) (fun w7 hV7 hg7 => ?_)
  replace hV7 : VR w7 w2.heap.size [up, ud] := hV7
  have hs6 := hE6.size
  have hs7 := hg7.size
  have hV2'' := (hV2'.ext hE6).grown hg7 (fun e => by simp only [Option.some.injEq] at e; omega)
  have hE17 : Ext w w7 := (hE15.trans hE6).grown hg7 (fun b hb => by simp only [Option.some.injEq] at hb; omega)
  have hp7 := (ho5.ext hE6).grown hg7 (.inl (by rw [hb4]; intro e; simp only [Option.some.injEq] at e; omega))
  have hd7 := ho6.grown hg7 (.inl (by rw [hb6]; intro e; simp only [Option.some.injEq] at e; omega))
  refine RL.nil ?_
  refine Fin.next ?_
  refine CW.seq ?_
  refine CW.region ?_
  refine RL.y rfl (y_loads ag25 rfl (eqw (hV7)) rfl) ?_
  refine RL.stores ag25 (hV2'') rfl rfl rfl rfl ((by simp [slice_one ho4.sv, slice_one ho6.sv])) (fun w8 hV8 hg8 => ?_)
  have hs8 := hg8.size
  have hE18 : Ext w w8 := hE17.grown hg8 (fun b hb => by simp only [Option.some.injEq] at hb; omega)
  have hp8 := hp7.grown hg8 (.inl (by rw [hb4]; intro e; simp only [Option.some.injEq] at e; omega))
  have hd8 := hd7.grown hg8 (.inl (by rw [hb6]; intro e; simp only [Option.some.injEq] at e; omega))
  replace hV8 : VR w8 w1.heap.size [up, ud] := hV8
  refine RL.nil ?_
  refine Fin.next ?_
  refine CW.ret ?_
  refine Fin.retc rfl ag25 rfl rfl (hV8) ?_
  exact ⟨_, rfl, ⟨up, ud, rfl, ⟨hp8.mono (by omega), Nat.le_refl _, fun b hb => (hp8.lt b hb).2⟩, ⟨hd8.mono (by omega), Nat.le_refl _, fun b hb => (hd8.lt b hb).2⟩, fun b h1 h2 => by rw [hb4] at h1; rw [hb6] at h2; simp only [Option.some.injEq] at h1 h2; omega⟩, hE18⟩

theorem eqBuilding_any {w : World} {b c : Value} {ps qs : List Int} {ds es : List Bool} (hb : RdB w b ps ds) (hc : RdB w c qs es) :
    Does Tryd.prog 8 #[b, c] w (fun r w' => r = .bool (decide (ps = qs ∧ ds = es)) ∧ Ext w w') := by
  obtain ⟨vp, vd, rfl, hp, hd⟩ := hb
  obtain ⟨up, ud, rfl, hq, he⟩ := hc
  refine enter Tryd.func8 rfl 17 Tryd.ntmps8 rfl (by kernel_rfl) ?_
  refine CW.seq ?_
  refine CW.region ?_
  refine RL.box (cs := [vp, vd]) rfl rfl rfl (fun w1 hV1 hE1 => ?_)
  refine RL.box (cs := [up, ud]) rfl rfl rfl (fun w2 hV2 hE2 => ?_)
  have hE12 := hE1.trans hE2
  refine RL.y rfl (y_asg rfl) ?_
  refine RL.nil ?_
  refine Fin.next ?_
  refine CW.seq ?_
  refine CW.seq ?_
  refine CW.region ?_
  refine RL.y rfl (y_fa fa25_0 rfl rfl) ?_
  refine RL.y rfl (y_loadv sc22 (eqw (hV1.ext hE2)) rfl rfl) ?_
  refine RL.y rfl (y_fa fa25_0 rfl rfl) ?_
  refine RL.y rfl (y_loadv sc22 (eqw (hV2)) rfl rfl) ?_
  refine RL.call rfl (eqInt64S_any (hp.ext hE12) (hq.ext hE12)) ?_
  rintro r w3 ⟨rfl, hE3⟩
  refine RL.y rfl (y_not rfl) ?_
  refine RL.nil ?_
  refine Fin.next ?_
  refine CW.cond rfl rfl (fun h1 => ?_) (fun h1 => ?_)
  · with_reducible first | (replace h1 := deNF h1) | (replace h1 := of_decide_eq_true h1) | (replace h1 := of_decide_eq_false h1) | (replace h1 := deNT h1) | (replace h1 := deNN h1) | (replace h1 := bnT h1) | (replace h1 := bnF h1) | skip
    refine CW.seq ?_
    refine CW.region ?_
    refine RL.y rfl (y_asg rfl) ?_
    refine RL.nil ?_
    refine Fin.next ?_
    refine CW.ret ?_
    refine Fin.thenRet ?_
    refine Fin.ret1 rfl (by conv => lhs; whnf) ?_
    exact ⟨_, rfl, bF (fun h => h1 h.1), hE12.trans hE3⟩
  · with_reducible first | (replace h1 := deNF h1) | (replace h1 := of_decide_eq_true h1) | (replace h1 := of_decide_eq_false h1) | (replace h1 := deNT h1) | (replace h1 := deNN h1) | (replace h1 := bnT h1) | (replace h1 := bnF h1) | skip
    have hE13 := hE12.trans hE3
    refine CW.skip ?_
    refine Fin.next ?_
    refine CW.seq ?_
    refine CW.seq ?_
    refine CW.region ?_
    refine RL.y rfl (y_fa fa25_1 rfl rfl) ?_
    refine RL.y rfl (y_loadv sc23 (eqw ((hV1.ext hE2).ext hE3)) rfl rfl) ?_
    refine RL.y rfl (y_fa fa25_1 rfl rfl) ?_
    refine RL.y rfl (y_loadv sc23 (eqw (hV2.ext hE3)) rfl rfl) ?_
    refine RL.call rfl (eqBoolS_any (hd.ext hE13) (he.ext hE13)) ?_
    rintro r w4 ⟨rfl, hE4⟩
    refine RL.y rfl (y_not rfl) ?_
    refine RL.nil ?_
    refine Fin.next ?_
    refine CW.cond rfl rfl (fun h2 => ?_) (fun h2 => ?_)
    · with_reducible first | (replace h2 := deNF h2) | (replace h2 := of_decide_eq_true h2) | (replace h2 := of_decide_eq_false h2) | (replace h2 := deNT h2) | (replace h2 := deNN h2) | (replace h2 := bnT h2) | (replace h2 := bnF h2) | skip
      refine CW.seq ?_
      refine CW.region ?_
      refine RL.y rfl (y_asg rfl) ?_
      refine RL.nil ?_
      refine Fin.next ?_
      refine CW.ret ?_
      refine Fin.thenRet ?_
      refine Fin.ret1 rfl (by conv => lhs; whnf) ?_
      exact ⟨_, rfl, bF (fun h => h2 h.2), hE13.trans hE4⟩
    · with_reducible first | (replace h2 := deNF h2) | (replace h2 := of_decide_eq_true h2) | (replace h2 := of_decide_eq_false h2) | (replace h2 := deNT h2) | (replace h2 := deNN h2) | (replace h2 := bnT h2) | (replace h2 := bnF h2) | skip
      refine CW.skip ?_
      refine Fin.next ?_
      refine CW.seq ?_
      refine CW.region ?_
      refine RL.y rfl (y_asg rfl) ?_
      refine RL.nil ?_
      refine Fin.next ?_
      refine CW.ret ?_
      refine Fin.ret1 rfl (by conv => lhs; whnf) ?_
      exact ⟨_, rfl, bT ⟨h1, h2⟩, hE13.trans hE4⟩
end Go.Proofs.YtebegkegkdmbjaaDoor
