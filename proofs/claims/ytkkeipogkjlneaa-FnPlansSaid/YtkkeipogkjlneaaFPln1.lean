/-
  Plans: helpers of the laws, IsPlan, the codes.
-/
import Derived.Test.YtkkeipogkjlneaaFRise
import Derived.Test.YtkkeipogkjlneaaFBld4
import Derived.Test.YtkkeipogkjlneaaFSl
import Derived.Test.YtkkeipogkjlneaaPln
namespace Go.Proofs.Ytkkeipogkjlneaa
open B Go.RowKit

def RdP (w : World) (v : Value) (ps : List Int) (ds : List Bool) (rs : List (List Int)) : Prop := ∃ vp vd vr, v = .agg #[vp, vd, vr] ∧ RdB w (.agg #[vp, vd]) ps ds ∧ RdSS w vr rs
def RuP (w : World) (B U : Nat) (v : Value) (ps : List Int) (ds : List Bool) (rs : List (List Int)) : Prop := ∃ vp vd vr, v = .agg #[vp, vd, vr] ∧ RuB w B U (.agg #[vp, vd]) ps ds ∧ RuSS w B U vr rs
def OwP (w : World) (B U : Nat) (v : Value) (ps : List Int) (ds : List Bool) (rs : List (List Int)) : Prop := ∃ vp vd vr M, v = .agg #[vp, vd, vr] ∧ OwB w B M (.agg #[vp, vd]) ps ds ∧ OwSS w M U vr rs ∧ B ≤ M ∧ M ≤ U
section
variable {w w' : World} {B U B' U' : Nat} {v : Value} {ps : List Int} {ds : List Bool} {rs : List (List Int)}
theorem RdP.ext (h : RdP w v ps ds rs) (he : Ext w w') : RdP w' v ps ds rs := by
  obtain ⟨vp, vd, vr, e, h1, h2⟩ := h; exact ⟨vp, vd, vr, e, h1.ext he, h2.ext he⟩
theorem RuP.ext (h : RuP w B U v ps ds rs) (he : Ext w w') : RuP w' B U v ps ds rs := by
  obtain ⟨vp, vd, vr, e, h1, h2⟩ := h; exact ⟨vp, vd, vr, e, h1.ext he, h2.ext he⟩
theorem RuP.mod (h : RuP w B U v ps ds rs) (hm : Mod B' U' w w') (hd : U ≤ B' ∨ U' ≤ B) : RuP w' B U v ps ds rs := by
  obtain ⟨vp, vd, vr, e, h1, h2⟩ := h; exact ⟨vp, vd, vr, e, h1.mod hm hd, h2.mod hm hd⟩
theorem RuP.rd (h : RuP w B U v ps ds rs) : RdP w v ps ds rs := by
  obtain ⟨vp, vd, vr, e, h1, h2⟩ := h; exact ⟨vp, vd, vr, e, h1.rd, h2.rd⟩
theorem RuP.of (h : RuP w B U v ps ds rs) : RuP w B U v ps ds rs := h
theorem RuP.wide (h : RuP w B U v ps ds rs) (h1 : B' ≤ B) (h2 : U ≤ U') (h3 : U' ≤ w.heap.size) : RuP w B' U' v ps ds rs := by
  obtain ⟨vp, vd, vr, e, a1, a2⟩ := h; exact ⟨vp, vd, vr, e, a1.wide h1 h2 h3, a2.wide h1 h2 h3⟩
theorem OwP.of (h : OwP w B U v ps ds rs) : OwP w B U v ps ds rs := h
theorem OwP.ext (h : OwP w B U v ps ds rs) (he : Ext w w') : OwP w' B U v ps ds rs := by
  obtain ⟨vp, vd, vr, M, e, h1, h2, h3⟩ := h; exact ⟨vp, vd, vr, M, e, h1.ext he, h2.ext he, h3⟩
theorem OwP.mod (h : OwP w B U v ps ds rs) (hm : Mod B' U' w w') (hd : U ≤ B' ∨ U' ≤ B) : OwP w' B U v ps ds rs := by
  obtain ⟨vp, vd, vr, M, e, h1, h2, h3, h4⟩ := h; exact ⟨vp, vd, vr, M, e, h1.mod hm (by omega), h2.mod hm (by omega), h3, h4⟩
theorem OwP.rd (h : OwP w B U v ps ds rs) : RdP w v ps ds rs := by
  obtain ⟨vp, vd, vr, M, e, h1, h2, _⟩ := h; exact ⟨vp, vd, vr, e, h1.rd, h2.rd⟩
theorem OwP.one {a b c : Value} (h : OwP w B U (.agg #[a, b, c]) ps ds rs) : ([a, b, c] : List Value).all (·.oneCell') = true := by
  obtain ⟨vp, vd, vr, M, e, ⟨up, ud, e3, h1, h2, _⟩, ⟨cs, h3⟩, _⟩ := h
  have e2 : a = vp ∧ b = vd ∧ c = vr := by simpa using e
  have e4 : vp = up ∧ vd = ud := by simpa using e3
  obtain ⟨rfl, rfl, rfl⟩ := e2
  obtain ⟨rfl, rfl⟩ := e4
  simp [slice_one h1.sv, slice_one h2.sv, slice_one h3.1.sv]
theorem RdP.bld' (h : RdP w v ps ds rs) : ∃ vp vd vr, v = .agg #[vp, vd, vr] ∧ RdB w (.agg #[vp, vd]) ps ds := by
  obtain ⟨vp, vd, vr, e, h1, _⟩ := h; exact ⟨vp, vd, vr, e, h1⟩
end

theorem szPlan_any {w : World} {v : Value} {ps : List Int} {ds : List Bool} {rs : List (List Int)} {left : Int} (hp : RdP w v ps ds rs) (h0 : 0 ≤ left) (h1 : left ≤ 1048576) :
    Does Try.prog 15 #[v, .int .i64 left] w (fun r w' => r = .int .i64 (szV (ps.length + ds.length + sizeN rs) left) ∧ Ext w w') := by
  obtain ⟨vp, vd, vr, rfl, hb, hr⟩ := hp
  refine enter Try.func15 rfl 18 Try.ntmps15 rfl (by kernel_rfl) ?_
  refine CW.seq ?_
  refine CW.region ?_
  refine RL.box (cs := [vp, vd, vr]) rfl rfl rfl (fun w1 hV hE1 => ?_)
  refine RL.y rfl (y_asg rfl) ?_
  refine RL.nil ?_
  refine Fin.next ?_
  refine CW.seq ?_
  refine CW.region ?_
  refine RL.y rfl (y_fa fa28_0 rfl rfl) ?_
  refine RL.y rfl (y_loadp (ds := [vp, vd]) ag25 (eqw (hV)) rfl rfl rfl) ?_
  refine RL.y rfl (y_mov (v := .int _ _) rfl) ?_
  refine RL.call rfl (szBuilding_any (hb.ext hE1) h0 h1) ?_
  rintro r w2 ⟨rfl, hE2⟩
  refine RL.y rfl (y_asg (v := .int _ _) rfl) ?_
  refine RL.nil ?_
  refine Fin.next ?_
  refine CW.seq ?_
  refine CW.seq ?_
  refine CW.region ?_
  refine RL.y rfl (y_mov (v := .int _ _) rfl) ?_
  refine RL.y rfl (y_lt rfl rfl) ?_
  refine RL.nil ?_
  refine Fin.next ?_
  refine CW.cond rfl rfl (fun hc => ?_) (fun hc => ?_)
  · with_reducible first | (replace hc := deNF hc) | (replace hc := of_decide_eq_true hc) | (replace hc := of_decide_eq_false hc) | (replace hc := deNT hc) | (replace hc := deNN hc) | (replace hc := bnT hc) | (replace hc := bnF hc) | skip
    have hno : left - ((ps.length + ds.length : Nat) : Int) < 0 := Classical.byContradiction fun h => by rw [szV_yes h] at hc; omega
    refine CW.seq ?_
    refine CW.region ?_
    refine RL.y rfl (y_asg rfl) ?_
    refine RL.nil ?_
    refine Fin.next ?_
    refine CW.ret ?_
    refine Fin.thenRet ?_
    refine Fin.ret1 rfl (by conv => lhs; whnf) ?_
    exact ⟨_, rfl, by rw [szV_no (by omega)], hE1.trans hE2⟩
  · with_reducible first | (replace hc := deNF hc) | (replace hc := of_decide_eq_true hc) | (replace hc := of_decide_eq_false hc) | (replace hc := deNT hc) | (replace hc := deNN hc) | (replace hc := bnT hc) | (replace hc := bnF hc) | skip
    obtain ⟨hge, hval⟩ := szV_ok hc
    have hE12 := hE1.trans hE2
    rw [hval]
    refine CW.skip ?_
    refine Fin.next ?_
    refine CW.seq ?_
    refine CW.region ?_
    refine RL.y rfl (y_fa fa28_1 rfl rfl) ?_
    refine RL.y rfl (y_loadv sc26 (eqw (hV.ext hE2)) rfl rfl) ?_
    refine RL.y rfl (y_mov (v := .int _ _) rfl) ?_
    refine RL.call rfl (szInt64SS_any (hr.ext hE12) (by omega) (by omega)) ?_
    rintro r w2 ⟨rfl, rfl⟩
    refine RL.y rfl (y_asg (v := .int _ _) rfl) ?_
    refine RL.nil ?_
    refine Fin.next ?_
    refine CW.seq ?_
    refine CW.seq ?_
    refine CW.region ?_
    refine RL.y rfl (y_mov (v := .int _ _) rfl) ?_
    refine RL.y rfl (y_lt rfl rfl) ?_
    refine RL.nil ?_
    refine Fin.next ?_
    refine CW.cond rfl rfl (fun hc2 => ?_) (fun hc2 => ?_)
    · with_reducible first | (replace hc2 := deNF hc2) | (replace hc2 := of_decide_eq_true hc2) | (replace hc2 := of_decide_eq_false hc2) | (replace hc2 := deNT hc2) | (replace hc2 := deNN hc2) | (replace hc2 := bnT hc2) | (replace hc2 := bnF hc2) | skip
      have hno : left - ((ps.length + ds.length : Nat) : Int) - (sizeN rs : Nat) < 0 := Classical.byContradiction fun h => by rw [szV_yes h] at hc2; omega
      refine CW.seq ?_
      refine CW.region ?_
      refine RL.y rfl (y_asg rfl) ?_
      refine RL.nil ?_
      refine Fin.next ?_
      refine CW.ret ?_
      refine Fin.thenRet ?_
      refine Fin.ret1 rfl (by conv => lhs; whnf) ?_
      exact ⟨_, rfl, by rw [szV_no (by omega)], hE12⟩
    · with_reducible first | (replace hc2 := deNF hc2) | (replace hc2 := of_decide_eq_true hc2) | (replace hc2 := of_decide_eq_false hc2) | (replace hc2 := deNT hc2) | (replace hc2 := deNN hc2) | (replace hc2 := bnT hc2) | (replace hc2 := bnF hc2) | skip
      obtain ⟨hge2, hval2⟩ := szV_ok hc2
      refine CW.skip ?_
      refine Fin.next ?_
      refine CW.seq ?_
      refine CW.region ?_
      refine RL.y rfl (y_mov (v := .int _ _) rfl) ?_
      refine RL.y rfl (y_asg (v := .int _ _) rfl) ?_
      refine RL.nil ?_
      refine Fin.next ?_
      refine CW.ret ?_
      refine Fin.ret1 rfl (by conv => lhs; whnf) ?_
      exact ⟨_, rfl, by rw [hval2, szV_yes (by omega)]; congr 1; omega, hE12⟩

theorem toPlan_any {w : World} {v : Value} {ps : List Int} {ds : List Bool} {rs : List (List Int)} (hp : RdP w v ps ds rs) (hlen : ps.length + ds.length + sizeN rs ≤ 1048576) :
    Does Try.prog 17 #[v] w (fun v' w' => OwP w' w.heap.size w'.heap.size v' ps ds rs ∧ Ext w w') := by
  obtain ⟨vp, vd, vr, rfl, hb, hr⟩ := hp
  refine enter Try.func17 rfl 13 Try.ntmps17 rfl (by kernel_rfl) ?_
  refine CW.seq ?_
  refine CW.region ?_
  refine RL.box (cs := [vp, vd, vr]) rfl rfl rfl (fun w1 hV1 hE1 => ?_)
  refine RL.alloc rfl ze33 (fun w2 hV2 hE2 => ?_)
  refine RL.nil ?_
  refine Fin.next ?_
  refine CW.seq ?_
  refine CW.region ?_
  refine RL.alloc rfl ze33 (fun w3 hV3 hE3 => ?_)
  have hl1 := hV1.lt
  have hl2 := hV2.lt
  have hl3 := hV3.lt
  have hE13 := (hE1.trans hE2).trans hE3
  refine RL.nil ?_
  refine Fin.next ?_
  refine CW.seq ?_
  refine CW.region ?_
  refine RL.y rfl (y_fa fa28_0 rfl rfl) ?_
  refine RL.y rfl (y_loadp (ds := [vp, vd]) ag25 (eqw ((hV1.ext hE2).ext hE3)) rfl rfl rfl) ?_
  refine RL.call rfl (toBuilding_any (hb.ext hE13) (by omega)) ?_
  rintro ub w4 ⟨ho4, hE4⟩
  obtain ⟨up, ud, rfl, hop4, hod4, hnb4⟩ := ho4
  have hob4 : OwB w4 w3.heap.size w4.heap.size (.agg #[up, ud]) ps ds := ⟨up, ud, rfl, hop4, hod4, hnb4⟩
  refine RL.y rfl (y_fa fa33_0 rfl rfl) ?_
  refine RL.storep ag31 (hV3.ext hE4) rfl rfl rfl rfl (hob4.one) (fun w5 hV5 hg5 => ?_)
  replace hV5 : VR w5 w2.heap.size [up, ud, .slice none 0 0] := hV5
  have hs4 := hE4.size
  have hs5 := hg5.size
  have hM5 : Mod w2.heap.size (w2.heap.size + 1) w4 w5 := grown_mod hg5 (fun k hk => by simp only [Option.some.injEq] at hk; omega)
  have hV1' := (((hV1.ext hE2).ext hE3).ext hE4).mod hM5 (by omega)
  have hV2' := ((hV2.ext hE3).ext hE4).mod hM5 (by omega)
  have hE15 : Ext w w5 := (hE13.trans hE4).then_mod hM5 (by omega)
  have hob5 := hob4.mod hM5 (by omega)
  refine RL.nil ?_
  refine Fin.next ?_
  refine CW.seq ?_
  refine CW.region ?_
  refine RL.y rfl (y_fa fa28_1 rfl rfl) ?_
  refine RL.y rfl (y_loadv sc26 (eqw (hV1')) rfl rfl) ?_
  refine RL.call rfl (toInt64SS_any (hr.ext hE15) (by omega)) ?_
  rintro ur w6 ⟨ho6, hE6⟩
  refine RL.y rfl (y_fa fa33_1 rfl rfl) ?_
  refine RL.storev so26 (hV5.ext hE6) (by simp) rfl rfl ((by obtain ⟨_, hh⟩ := ho6; exact slice_one hh.1.sv)) (fun w7 hV7 hg7 => ?_)
  replace hV7 : VR w7 w2.heap.size [up, ud, ur] := hV7
  have hs6 := hE6.size
  have hs7 := hg7.size
  have hM7 : Mod w2.heap.size (w2.heap.size + 1) w6 w7 := grown_mod hg7 (fun k hk => by simp only [Option.some.injEq] at hk; omega)
  have hV2'' := (hV2'.ext hE6).mod hM7 (by omega)
  have hE17 : Ext w w7 := (hE15.trans hE6).then_mod hM7 (by omega)
  have hob7 := (hob5.ext hE6).mod hM7 (by omega)
  have hor7 := ho6.mod hM7 (by omega)
  refine RL.nil ?_
  refine Fin.next ?_
  refine CW.seq ?_
  refine CW.region ?_
  refine RL.y rfl (y_loads ag33 rfl (eqw (hV7)) rfl) ?_
  have hown7 : OwP w7 w3.heap.size w6.heap.size (.agg #[up, ud, ur]) ps ds rs := ⟨up, ud, ur, w5.heap.size, rfl, (by obtain ⟨a, b, e, h1, h2, h3⟩ := hob7; exact ⟨a, b, e, h1.wide (Nat.le_refl _) hs5 (by omega), h2.wide (Nat.le_refl _) hs5 (by omega), h3⟩), hor7, by omega, hs6⟩
  refine RL.stores ag33 (hV2'') rfl rfl rfl rfl (hown7.one) (fun w8 hV8 hg8 => ?_)
  have hs8 := hg8.size
  have hM8 : Mod w1.heap.size (w1.heap.size + 1) w7 w8 := grown_mod hg8 (fun k hk => by simp only [Option.some.injEq] at hk; omega)
  have hE18 : Ext w w8 := hE17.then_mod hM8 (by omega)
  obtain ⟨_, _, _, M, e8, hob8, hor8, hM1, hM2⟩ := hown7.mod hM8 (by omega)
  obtain ⟨rfl, rfl, rfl⟩ : up = _ ∧ ud = _ ∧ ur = _ := by simpa using e8
  replace hV8 : VR w8 w1.heap.size [up, ud, ur] := hV8
  refine RL.nil ?_
  refine Fin.next ?_
  refine CW.ret ?_
  refine Fin.retc rfl ag33 rfl rfl (hV8) ?_
  exact ⟨_, rfl, ⟨up, ud, ur, M, rfl, (by obtain ⟨a, b, e, h1, h2, h3⟩ := hob8; exact ⟨a, b, e, h1.wide (by omega) (Nat.le_refl _) (by omega), h2.wide (by omega) (Nat.le_refl _) (by omega), h3⟩), hor8.wide (Nat.le_refl _) (by omega) (Nat.le_refl _), by omega, by omega⟩, hE18⟩

theorem eqPlan_any {w : World} {b c : Value} {ps qs : List Int} {ds es : List Bool} {rs ss : List (List Int)} (hb : RdP w b ps ds rs) (hc : RdP w c qs es ss) :
    Does Try.prog 19 #[b, c] w (fun r w' => r = .bool (decide ((ps = qs ∧ ds = es) ∧ rs = ss)) ∧ Ext w w') := by
  obtain ⟨vp, vd, vr, rfl, hb1, hr1⟩ := hb
  obtain ⟨up, ud, ur, rfl, hb2, hr2⟩ := hc
  refine enter Try.func19 rfl 17 Try.ntmps19 rfl (by kernel_rfl) ?_
  refine CW.seq ?_
  refine CW.region ?_
  refine RL.box (cs := [vp, vd, vr]) rfl rfl rfl (fun w1 hV1 hE1 => ?_)
  refine RL.box (cs := [up, ud, ur]) rfl rfl rfl (fun w2 hV2 hE2 => ?_)
  have hE12 := hE1.trans hE2
  refine RL.y rfl (y_asg rfl) ?_
  refine RL.nil ?_
  refine Fin.next ?_
  refine CW.seq ?_
  refine CW.seq ?_
  refine CW.region ?_
  refine RL.y rfl (y_fa fa33_0 rfl rfl) ?_
  refine RL.y rfl (y_loadp (ds := [vp, vd]) ag31 (eqw (hV1.ext hE2)) rfl rfl rfl) ?_
  refine RL.y rfl (y_fa fa33_0 rfl rfl) ?_
  refine RL.y rfl (y_loadp (ds := [up, ud]) ag31 (eqw (hV2)) rfl rfl rfl) ?_
  refine RL.call rfl (eqBuilding_any (hb1.ext hE12) (hb2.ext hE12)) ?_
  rintro r w3 ⟨rfl, hE3⟩
  refine RL.y rfl (y_not rfl) ?_
  refine RL.nil ?_
  refine Fin.next ?_
  refine CW.cond rfl rfl (fun h1 => ?_) (fun h1 => ?_)
  · with_reducible first | (replace h1 := deNF h1) | (replace h1 := of_decide_eq_true h1) | (replace h1 := of_decide_eq_false h1) | (replace h1 := deNT h1) | (replace h1 := deNN h1) | (replace h1 := bnT h1) | (replace h1 := bnF h1) | skip
    refine CW.seq ?_
    refine CW.region ?_
    refine RL.y rfl (y_asg rfl) ?_
    refine RL.nil ?_
    refine Fin.next ?_
    refine CW.ret ?_
    refine Fin.thenRet ?_
    refine Fin.ret1 rfl (by conv => lhs; whnf) ?_
    exact ⟨_, rfl, bF (fun h => h1 h.1), hE12.trans hE3⟩
  · with_reducible first | (replace h1 := deNF h1) | (replace h1 := of_decide_eq_true h1) | (replace h1 := of_decide_eq_false h1) | (replace h1 := deNT h1) | (replace h1 := deNN h1) | (replace h1 := bnT h1) | (replace h1 := bnF h1) | skip
    have hE13 := hE12.trans hE3
    refine CW.skip ?_
    refine Fin.next ?_
    refine CW.seq ?_
    refine CW.seq ?_
    refine CW.region ?_
    refine RL.y rfl (y_fa fa33_1 rfl rfl) ?_
    refine RL.y rfl (y_loadv sc26 (eqw ((hV1.ext hE2).ext hE3)) rfl rfl) ?_
    refine RL.y rfl (y_fa fa33_1 rfl rfl) ?_
    refine RL.y rfl (y_loadv sc26 (eqw (hV2.ext hE3)) rfl rfl) ?_
    refine RL.call rfl (eqInt64SS_any (hr1.ext hE13) (hr2.ext hE13)) ?_
    rintro r w4 ⟨rfl, hE4⟩
    refine RL.y rfl (y_not rfl) ?_
    refine RL.nil ?_
    refine Fin.next ?_
    refine CW.cond rfl rfl (fun h2 => ?_) (fun h2 => ?_)
    · with_reducible first | (replace h2 := deNF h2) | (replace h2 := of_decide_eq_true h2) | (replace h2 := of_decide_eq_false h2) | (replace h2 := deNT h2) | (replace h2 := deNN h2) | (replace h2 := bnT h2) | (replace h2 := bnF h2) | skip
      refine CW.seq ?_
      refine CW.region ?_
      refine RL.y rfl (y_asg rfl) ?_
      refine RL.nil ?_
      refine Fin.next ?_
      refine CW.ret ?_
      refine Fin.thenRet ?_
      refine Fin.ret1 rfl (by conv => lhs; whnf) ?_
      exact ⟨_, rfl, bF (fun h => h2 h.2), hE13.trans hE4⟩
    · with_reducible first | (replace h2 := deNF h2) | (replace h2 := of_decide_eq_true h2) | (replace h2 := of_decide_eq_false h2) | (replace h2 := deNT h2) | (replace h2 := deNN h2) | (replace h2 := bnT h2) | (replace h2 := bnF h2) | skip
      refine CW.skip ?_
      refine Fin.next ?_
      refine CW.seq ?_
      refine CW.region ?_
      refine RL.y rfl (y_asg rfl) ?_
      refine RL.nil ?_
      refine Fin.next ?_
      refine CW.ret ?_
      refine Fin.ret1 rfl (by conv => lhs; whnf) ?_
      exact ⟨_, rfl, bT ⟨h1, h2⟩, hE13.trans hE4⟩

theorem l10Nodes_any {w : World} {b v : Value} {ps : List Int} {ds : List Bool} {ns : List Int} (hb : RdB w b ps ds) (hv : SI w v ns) :
    Does Try.prog 64 #[b, v] w (fun r w' => r = .bool (decide (rts ps.length ns)) ∧ Ext w w') := by
  obtain ⟨vp, vd, rfl, hp, hd⟩ := hb
  have hnl := SI.le hv
  refine enter Try.func64 rfl 15 Try.ntmps64 rfl (by kernel_rfl) ?_
  refine CW.seq ?_
  refine CW.region ?_
  refine RL.box (cs := [vp, vd]) rfl rfl rfl (fun w1 hV hE1 => ?_)
  refine RL.y rfl (y_asg rfl) ?_
  refine RL.nil ?_
  refine Fin.next ?_
  refine CW.seq ?_
  refine CW.region ?_
  refine RL.y rfl (y_mov (by conv => lhs; whnf)) ?_
  refine RL.y rfl (y_len sT22 hv (ints_len _) rfl) ?_
  refine RL.y rfl (y_gt rfl rfl) ?_
  refine RL.y rfl (y_mov (v := .bool _) rfl) ?_
  refine RL.split (t := 8) rfl rfl (fun h1 => ?_) (fun h1 => ?_)
  · with_reducible first | (replace h1 := deNF h1) | (replace h1 := of_decide_eq_true h1) | (replace h1 := of_decide_eq_false h1) | (replace h1 := deNT h1) | (replace h1 := deNN h1) | (replace h1 := bnT h1) | (replace h1 := bnF h1) | skip
    refine RL.take (t := 8) rfl rfl rfl ?_
    refine RL.y rfl (y_mov (by conv => lhs; whnf)) ?_
    refine RL.take (t := 8) rfl rfl rfl ?_
    refine RL.y rfl (y_fa fa31_0 rfl rfl) ?_
    refine RL.take (t := 8) rfl rfl rfl ?_
    refine RL.y rfl (y_loadv sc22 (eqw (hV)) rfl rfl) ?_
    refine RL.take (t := 8) rfl rfl rfl ?_
    refine RL.y rfl (y_len sT22 hp (ints_len _) rfl) ?_
    refine RL.take (t := 8) rfl rfl rfl ?_
    refine RL.call rfl (l01Rises_any (hv.ext hE1)) ?_
    rintro r w2 ⟨rfl, hE2⟩
    refine RL.y rfl (y_pickT (v := .bool _) rfl rfl) ?_
    refine RL.y rfl (y_asg (v := .bool _) rfl) ?_
    refine RL.nil ?_
    refine Fin.next ?_
    refine CW.ret ?_
    refine Fin.ret1 rfl (by conv => lhs; whnf) ?_
    exact ⟨_, rfl, bD ⟨fun h => ⟨by omega, h⟩, fun h => h.2⟩, hE1.trans hE2⟩
  · with_reducible first | (replace h1 := deNF h1) | (replace h1 := of_decide_eq_true h1) | (replace h1 := of_decide_eq_false h1) | (replace h1 := deNT h1) | (replace h1 := deNN h1) | (replace h1 := bnT h1) | (replace h1 := bnF h1) | skip
    refine RL.pass (t := 8) rfl rfl rfl rfl ?_
    refine RL.pass (t := 8) rfl rfl rfl rfl ?_
    refine RL.pass (t := 8) rfl rfl rfl rfl ?_
    refine RL.pass (t := 8) rfl rfl rfl rfl ?_
    refine RL.pass (t := 8) rfl rfl rfl rfl ?_
    refine RL.y rfl (y_pickF (v := .bool _) rfl rfl) ?_
    refine RL.y rfl (y_asg (v := .bool _) rfl) ?_
    refine RL.nil ?_
    refine Fin.next ?_
    refine CW.ret ?_
    refine Fin.ret1 rfl (by conv => lhs; whnf) ?_
    exact ⟨_, rfl, bF (fun h => by have := h.1; omega), hE1⟩

theorem areRights_any {w : World} {b v : Value} {ps : List Int} {ds : List Bool} {ns : List Int} (hb : RdB w b ps ds) (hv : SI w v ns) :
    Does Try.prog 70 #[b, v] w (fun r w' => r = .bool (decide (rts ps.length ns)) ∧ Ext w w') := by
  obtain ⟨vp, vd, rfl, hp, hd⟩ := hb
  have hnl := SI.le hv
  refine enter Try.func70 rfl 15 Try.ntmps70 rfl (by kernel_rfl) ?_
  refine CW.seq ?_
  refine CW.region ?_
  refine RL.box (cs := [vp, vd]) rfl rfl rfl (fun w1 hV hE1 => ?_)
  refine RL.y rfl (y_asg rfl) ?_
  refine RL.nil ?_
  refine Fin.next ?_
  refine CW.seq ?_
  refine CW.region ?_
  refine RL.y rfl (y_mov (by conv => lhs; whnf)) ?_
  refine RL.y rfl (y_len sT22 hv (ints_len _) rfl) ?_
  refine RL.y rfl (y_gt rfl rfl) ?_
  refine RL.y rfl (y_mov (v := .bool _) rfl) ?_
  refine RL.split (t := 8) rfl rfl (fun h1 => ?_) (fun h1 => ?_)
  · with_reducible first | (replace h1 := deNF h1) | (replace h1 := of_decide_eq_true h1) | (replace h1 := of_decide_eq_false h1) | (replace h1 := deNT h1) | (replace h1 := deNN h1) | (replace h1 := bnT h1) | (replace h1 := bnF h1) | skip
    refine RL.take (t := 8) rfl rfl rfl ?_
    refine RL.y rfl (y_mov (by conv => lhs; whnf)) ?_
    refine RL.take (t := 8) rfl rfl rfl ?_
    refine RL.y rfl (y_fa fa31_0 rfl rfl) ?_
    refine RL.take (t := 8) rfl rfl rfl ?_
    refine RL.y rfl (y_loadv sc22 (eqw (hV)) rfl rfl) ?_
    refine RL.take (t := 8) rfl rfl rfl ?_
    refine RL.y rfl (y_len sT22 hp (ints_len _) rfl) ?_
    refine RL.take (t := 8) rfl rfl rfl ?_
    refine RL.call rfl (IsRising_any (hv.ext hE1)) ?_
    rintro r w2 ⟨rfl, rfl⟩
    refine RL.y rfl (y_pickT (v := .bool _) rfl rfl) ?_
    refine RL.y rfl (y_asg (v := .bool _) rfl) ?_
    refine RL.nil ?_
    refine Fin.next ?_
    refine CW.ret ?_
    refine Fin.ret1 rfl (by conv => lhs; whnf) ?_
    exact ⟨_, rfl, bD ⟨fun h => ⟨by omega, h⟩, fun h => h.2⟩, hE1⟩
  · with_reducible first | (replace h1 := deNF h1) | (replace h1 := of_decide_eq_true h1) | (replace h1 := of_decide_eq_false h1) | (replace h1 := deNT h1) | (replace h1 := deNN h1) | (replace h1 := bnT h1) | (replace h1 := bnF h1) | skip
    refine RL.pass (t := 8) rfl rfl rfl rfl ?_
    refine RL.pass (t := 8) rfl rfl rfl rfl ?_
    refine RL.pass (t := 8) rfl rfl rfl rfl ?_
    refine RL.pass (t := 8) rfl rfl rfl rfl ?_
    refine RL.pass (t := 8) rfl rfl rfl rfl ?_
    refine RL.y rfl (y_pickF (v := .bool _) rfl rfl) ?_
    refine RL.y rfl (y_asg (v := .bool _) rfl) ?_
    refine RL.nil ?_
    refine Fin.next ?_
    refine CW.ret ?_
    refine Fin.ret1 rfl (by conv => lhs; whnf) ?_
    exact ⟨_, rfl, bF (fun h => by have := h.1; omega), hE1⟩

theorem specIsPlan_any {w : World} {v : Value} {ps : List Int} {ds : List Bool} {rs : List (List Int)} (hp : RdP w v ps ds rs) :
    Does Try.prog 16 #[v] w (fun r w' => r = .bool (decide (pln ps ds rs)) ∧ Ext w w') := by
  obtain ⟨vp, vd, vr, rfl, hb, hr⟩ := hp
  obtain ⟨cs, hc⟩ := hr
  have hxl := hc.le
  refine enter Try.func16 rfl 31 Try.ntmps16 rfl (by kernel_rfl) ?_
  refine CW.seq ?_
  refine CW.region ?_
  refine RL.box (cs := [vp, vd, vr]) rfl rfl rfl (fun w1 hV hE1 => ?_)
  refine RL.y rfl (y_asg rfl) ?_
  refine RL.nil ?_
  refine Fin.next ?_
  refine CW.seq ?_
  refine CW.seq ?_
  refine CW.region ?_
  refine RL.y rfl (y_fa fa33_0 rfl rfl) ?_
  refine RL.y rfl (y_loadp (ds := [vp, vd]) ag31 (eqw (hV)) rfl rfl rfl) ?_
  refine RL.call rfl (specIsBuilding_any (hb.ext hE1)) ?_
  rintro r w2 ⟨rfl, hE2⟩
  have hE12 := hE1.trans hE2
  refine RL.y rfl (y_not rfl) ?_
  refine RL.y rfl (y_mov (v := .bool _) rfl) ?_
  refine RL.split (t := 8) rfl rfl (fun h1 => ?_) (fun h1 => ?_)
  · with_reducible first | (replace h1 := deNF h1) | (replace h1 := of_decide_eq_true h1) | (replace h1 := of_decide_eq_false h1) | (replace h1 := deNT h1) | (replace h1 := deNN h1) | (replace h1 := bnT h1) | (replace h1 := bnF h1) | skip
    refine RL.pass (t := 8) rfl rfl rfl rfl ?_
    refine RL.pass (t := 8) rfl rfl rfl rfl ?_
    refine RL.pass (t := 8) rfl rfl rfl rfl ?_
    refine RL.pass (t := 8) rfl rfl rfl rfl ?_
    refine RL.pass (t := 8) rfl rfl rfl rfl ?_
    refine RL.y rfl (y_pickT (v := .bool _) rfl rfl) ?_
    refine RL.nil ?_
    refine Fin.next ?_
    refine CW.condT rfl rfl ?_
    refine CW.seq ?_
    refine CW.region ?_
    refine RL.y rfl (y_asg rfl) ?_
    refine RL.nil ?_
    refine Fin.next ?_
    refine CW.ret ?_
    refine Fin.thenRet ?_
    refine Fin.ret1 rfl (by conv => lhs; whnf) ?_
    exact ⟨_, rfl, bF (fun h => h1 h.1), hE12⟩
  · with_reducible first | (replace h1 := deNF h1) | (replace h1 := of_decide_eq_true h1) | (replace h1 := of_decide_eq_false h1) | (replace h1 := deNT h1) | (replace h1 := deNN h1) | (replace h1 := bnT h1) | (replace h1 := bnF h1) | skip
    refine RL.take (t := 8) rfl rfl rfl ?_
    refine RL.y rfl (y_fa fa33_1 rfl rfl) ?_
    refine RL.take (t := 8) rfl rfl rfl ?_
    refine RL.y rfl (y_loadv sc26 (eqw (hV.ext hE2)) rfl rfl) ?_
    refine RL.take (t := 8) rfl rfl rfl ?_
    refine RL.y rfl (y_len sT26 hc.1 hc.2.1 rfl) ?_
    refine RL.take (t := 8) rfl rfl rfl ?_
    refine RL.call rfl (l01In_any) ?_
    rintro r w3 ⟨rfl, rfl⟩
    refine RL.take (t := 8) rfl rfl rfl ?_
    refine RL.y rfl (y_not rfl) ?_
    refine RL.y rfl (y_pickF (v := .bool _) rfl rfl) ?_
    refine RL.nil ?_
    refine Fin.next ?_
    refine CW.cond rfl rfl (fun h2 => ?_) (fun h2 => ?_)
    · with_reducible first | (replace h2 := deNF h2) | (replace h2 := of_decide_eq_true h2) | (replace h2 := of_decide_eq_false h2) | (replace h2 := deNT h2) | (replace h2 := deNN h2) | (replace h2 := bnT h2) | (replace h2 := bnF h2) | skip
      refine CW.seq ?_
      refine CW.region ?_
      refine RL.y rfl (y_asg rfl) ?_
      refine RL.nil ?_
      refine Fin.next ?_
      refine CW.ret ?_
      refine Fin.thenRet ?_
      refine Fin.ret1 rfl (by conv => lhs; whnf) ?_
      exact ⟨_, rfl, bF (fun h => h2 ⟨by have := h.2.1.1; omega, by have := h.2.1.2; omega⟩), hE12⟩
    · with_reducible first | (replace h2 := deNF h2) | (replace h2 := of_decide_eq_true h2) | (replace h2 := of_decide_eq_false h2) | (replace h2 := deNT h2) | (replace h2 := deNN h2) | (replace h2 := bnT h2) | (replace h2 := bnF h2) | skip
      refine CW.skip ?_
      refine Fin.next ?_
      refine CW.seq ?_
      refine CW.seq ?_
      refine CW.region ?_
      refine RL.y rfl (y_asg rfl) ?_
      refine RL.nil ?_
      refine Fin.next ?_
      refine CW.block ?_
      refine CW.loop (fun m E w' => ∃ k : Nat, m = rs.length - k ∧ k ≤ rs.length ∧ agrees E [(1, .pointer (some ⟨w.heap.size, 0, none⟩)), (3, .int .i64 (k : Int))] ∧ (∀ r ∈ rs.take k, rts ps.length r) ∧ Ext w1 w') _ ⟨0, rfl, Nat.zero_le _, ⟨rfl, rfl, trivial⟩, by simp, hE2⟩ ?_
      · rintro m E w4 ⟨k, rfl, hkk, hagk, hall, hE4⟩
        refine CW.re _ hagk rfl ?_
        clear hagk
        refine CW.seq ?_
        refine CW.seq ?_
        refine CW.region ?_
        refine RL.y rfl (y_mov (v := .int _ _) rfl) ?_
        refine RL.y rfl (y_fa fa33_1 rfl rfl) ?_
        refine RL.y rfl (y_loadv sc26 (eqw (hV.ext hE4)) rfl rfl) ?_
        refine RL.y rfl (y_len sT26 hc.1 hc.2.1 rfl) ?_
        refine RL.y rfl (y_lt rfl rfl) ?_
        refine RL.nil ?_
        refine Fin.next ?_
        refine CW.cond rfl rfl (fun hck => ?_) (fun hck => ?_)
        · with_reducible first | (replace hck := deNF hck) | (replace hck := of_decide_eq_true hck) | (replace hck := of_decide_eq_false hck) | (replace hck := deNT hck) | (replace hck := deNN hck) | (replace hck := bnT hck) | (replace hck := bnF hck) | skip
          have hltk : k < rs.length := by omega
          have hE14 := hE1.trans hE4
          refine CW.skip ?_
          refine Fin.next ?_
          refine CW.seq ?_
          refine CW.block ?_
          refine CW.seq ?_
          refine CW.quietE mixed (by kernel_rfl) ?_
          refine QL.y rfl (y_fa fa33_0 rfl rfl) ?_
          refine QL.y rfl (y_loadp (ds := [vp, vd]) ag31 (fun _ hC => (hV.ext hE4).ext hC) rfl rfl rfl) ?_
          refine QL.y rfl (y_fa fa33_1 rfl rfl) ?_
          refine QL.y rfl (y_loadv sc26 (fun _ hC => (hV.ext hE4).ext hC) rfl rfl) ?_
          refine QL.y rfl (y_mov (v := .int _ _) rfl) ?_
          refine QL.y rfl (y_ixa sT26 (fun _ hC => (hc.1.ext hE14).ext hC) (k := k) (hc.lt hltk) rfl rfl) ?_
          refine QL.y rfl (y_load sc22 (fun _ hC => (hc.1.ext hE14).ext hC) (hc.at hltk) rfl) ?_
          refine QL.call rfl (fun _ hC => qc hC (l10Nodes_any ((hb.ext hE14).ext hC) (((hc.row hltk).ext hE14).ext hC))) ?_
          refine QL.y rfl (y_not rfl) ?_
          refine QL.nil (fun w5 hE5 => ?_)
          refine Fin.next ?_
          refine CW.cond rfl rfl (fun h3 => ?_) (fun h3 => ?_)
          · with_reducible first | (replace h3 := deNF h3) | (replace h3 := of_decide_eq_true h3) | (replace h3 := of_decide_eq_false h3) | (replace h3 := deNT h3) | (replace h3 := deNN h3) | (replace h3 := bnT h3) | (replace h3 := bnF h3) | skip
            refine CW.seq ?_
            refine CW.region ?_
            refine RL.y rfl (y_asg rfl) ?_
            refine RL.nil ?_
            refine Fin.next ?_
            refine CW.ret ?_
            refine Fin.blockRet ?_
            refine Fin.thenRet ?_
            refine Fin.thenRet ?_
            refine Fin.blockRet ?_
            refine Fin.thenRet ?_
            refine Fin.ret1 rfl (by conv => lhs; whnf) ?_
            exact ⟨_, rfl, bF (fun h => h3 (h.2.2 _ (List.getElem_mem hltk))), hE14.trans hE5⟩
          · with_reducible first | (replace h3 := deNF h3) | (replace h3 := of_decide_eq_true h3) | (replace h3 := of_decide_eq_false h3) | (replace h3 := deNT h3) | (replace h3 := deNN h3) | (replace h3 := bnT h3) | (replace h3 := bnF h3) | skip
            refine CW.skip ?_
            refine Fin.blockNormal ?_
            refine Fin.next ?_
            refine CW.region ?_
            refine RL.y rfl (y_mov (v := .int _ _) rfl) ?_
            refine RL.y rfl (y_add rfl rfl (IntWalk.i64_in _ (by omega))) ?_
            refine RL.y rfl (y_asg (v := .int _ _) rfl) ?_
            refine RL.nil ?_
            refine Fin.le ?_
            exact ⟨rs.length - (k + 1), by omega, k + 1, rfl, hltk, ⟨rfl, rfl, trivial⟩, (fun r hr => by rw [List.take_succ_eq_append_getElem hltk, List.mem_append, List.mem_singleton] at hr; rcases hr with hr | rfl; exact hall r hr; exact h3), hE4.trans hE5⟩
        · with_reducible first | (replace hck := deNF hck) | (replace hck := of_decide_eq_true hck) | (replace hck := of_decide_eq_false hck) | (replace hck := deNT hck) | (replace hck := deNN hck) | (replace hck := bnT hck) | (replace hck := bnF hck) | skip
          obtain rfl : rs.length = k := by omega
          rw [List.take_length] at hall
          refine CW.exit ?_
          refine Fin.thenExit ?_
          refine Fin.thenExit ?_
          refine Fin.blockHit ?_
          refine Fin.next ?_
          refine CW.seq ?_
          refine CW.region ?_
          refine RL.y rfl (y_asg rfl) ?_
          refine RL.nil ?_
          refine Fin.next ?_
          refine CW.ret ?_
          refine Fin.ret1 rfl (by conv => lhs; whnf) ?_
          exact ⟨_, rfl, bT ⟨h1, ⟨by omega, by omega⟩, hall⟩, hE1.trans hE4⟩

theorem isPlan1_any {w : World} {v vp vd vr : Value} {b : Nat} {ps : List Int} {ds : List Bool} {ns : List Int} (hV : VR w b [vp, vd, vr]) (hb : RdB w (.agg #[vp, vd]) ps ds) (hv : SI w v ns) :
    Does Try.prog 69 #[v, .pointer (some ⟨b, 0, none⟩)] w (fun r w' => r = .bool (!decide (rts ps.length ns)) ∧ Ext w w') := by
  refine enter Try.func69 rfl 9 Try.ntmps69 rfl (by kernel_rfl) ?_
  refine CW.seq ?_
  refine CW.region ?_
  refine RL.y rfl (y_asg rfl) ?_
  refine RL.nil ?_
  refine Fin.next ?_
  refine CW.seq ?_
  refine CW.region ?_
  refine RL.y rfl (y_fa fa33_0 rfl rfl) ?_
  refine RL.y rfl (y_loadp (ds := [vp, vd]) ag31 (eqw (hV)) rfl rfl rfl) ?_
  refine RL.y rfl (y_mov (by conv => lhs; whnf)) ?_
  refine RL.call rfl (areRights_any hb hv) ?_
  rintro r w1 ⟨rfl, hE1⟩
  refine RL.y rfl (y_not rfl) ?_
  refine RL.y rfl (y_asg (v := .bool _) rfl) ?_
  refine RL.nil ?_
  refine Fin.next ?_
  refine CW.ret ?_
  refine Fin.ret1 rfl (by conv => lhs; whnf) ?_
  exact ⟨_, rfl, rfl, hE1⟩

theorem implIsPlan_any {w : World} {v : Value} {ps : List Int} {ds : List Bool} {rs : List (List Int)} (hp : RdP w v ps ds rs) :
    Does Try.prog 18 #[v] w (fun r w' => r = .bool (decide (pln ps ds rs)) ∧ Ext w w') := by
  obtain ⟨vp, vd, vr, rfl, hb, hr⟩ := hp
  obtain ⟨cs, hc⟩ := hr
  have hxl := hc.le
  refine enter Try.func18 rfl 24 Try.ntmps18 rfl (by kernel_rfl) ?_
  refine CW.seq ?_
  refine CW.region ?_
  refine RL.box (cs := [vp, vd, vr]) rfl rfl rfl (fun w1 hV hE1 => ?_)
  refine RL.y rfl (y_asg rfl) ?_
  refine RL.nil ?_
  refine Fin.next ?_
  refine CW.seq ?_
  refine CW.seq ?_
  refine CW.region ?_
  refine RL.y rfl (y_fa fa33_0 rfl rfl) ?_
  refine RL.y rfl (y_loadp (ds := [vp, vd]) ag31 (eqw (hV)) rfl rfl rfl) ?_
  refine RL.call rfl (implIsBuilding_any (hb.ext hE1)) ?_
  rintro r w2 ⟨rfl, hE2⟩
  have hE12 := hE1.trans hE2
  refine RL.y rfl (y_not rfl) ?_
  refine RL.y rfl (y_mov (v := .bool _) rfl) ?_
  refine RL.split (t := 7) rfl rfl (fun h1 => ?_) (fun h1 => ?_)
  · with_reducible first | (replace h1 := deNF h1) | (replace h1 := of_decide_eq_true h1) | (replace h1 := of_decide_eq_false h1) | (replace h1 := deNT h1) | (replace h1 := deNN h1) | (replace h1 := bnT h1) | (replace h1 := bnF h1) | skip
    refine RL.pass (t := 7) rfl rfl rfl rfl ?_
    refine RL.pass (t := 7) rfl rfl rfl rfl ?_
    refine RL.pass (t := 7) rfl rfl rfl rfl ?_
    refine RL.pass (t := 7) rfl rfl rfl rfl ?_
    refine RL.y rfl (y_pickT (v := .bool _) rfl rfl) ?_
    refine RL.y rfl (y_mov (v := .bool _) rfl) ?_
    refine RL.pass (t := 13) rfl rfl rfl rfl ?_
    refine RL.pass (t := 13) rfl rfl rfl rfl ?_
    refine RL.pass (t := 13) rfl rfl rfl rfl ?_
    refine RL.pass (t := 13) rfl rfl rfl rfl ?_
    refine RL.y rfl (y_pickT (v := .bool _) rfl rfl) ?_
    refine RL.nil ?_
    refine Fin.next ?_
    refine CW.condT rfl rfl ?_
    refine CW.seq ?_
    refine CW.region ?_
    refine RL.y rfl (y_asg rfl) ?_
    refine RL.nil ?_
    refine Fin.next ?_
    refine CW.ret ?_
    refine Fin.thenRet ?_
    refine Fin.ret1 rfl (by conv => lhs; whnf) ?_
    exact ⟨_, rfl, bF (fun h => h1 h.1), hE12⟩
  · with_reducible first | (replace h1 := deNF h1) | (replace h1 := of_decide_eq_true h1) | (replace h1 := of_decide_eq_false h1) | (replace h1 := deNT h1) | (replace h1 := deNN h1) | (replace h1 := bnT h1) | (replace h1 := bnF h1) | skip
    refine RL.take (t := 7) rfl rfl rfl ?_
    refine RL.y rfl (y_fa fa33_1 rfl rfl) ?_
    refine RL.take (t := 7) rfl rfl rfl ?_
    refine RL.y rfl (y_loadv sc26 (eqw (hV.ext hE2)) rfl rfl) ?_
    refine RL.take (t := 7) rfl rfl rfl ?_
    refine RL.y rfl (y_len sT26 hc.1 hc.2.1 rfl) ?_
    refine RL.take (t := 7) rfl rfl rfl ?_
    refine RL.y rfl (y_lt rfl rfl) ?_
    refine RL.y rfl (y_pickF (v := .bool _) rfl rfl) ?_
    refine RL.y rfl (y_mov (v := .bool _) rfl) ?_
    refine RL.split (t := 13) rfl rfl (fun h2 => ?_) (fun h2 => ?_)
    · with_reducible first | (replace h2 := deNF h2) | (replace h2 := of_decide_eq_true h2) | (replace h2 := of_decide_eq_false h2) | (replace h2 := deNT h2) | (replace h2 := deNN h2) | (replace h2 := bnT h2) | (replace h2 := bnF h2) | skip
      refine RL.pass (t := 13) rfl rfl rfl rfl ?_
      refine RL.pass (t := 13) rfl rfl rfl rfl ?_
      refine RL.pass (t := 13) rfl rfl rfl rfl ?_
      refine RL.pass (t := 13) rfl rfl rfl rfl ?_
      refine RL.y rfl (y_pickT (v := .bool _) rfl rfl) ?_
      refine RL.nil ?_
      refine Fin.next ?_
      refine CW.condT rfl rfl ?_
      refine CW.seq ?_
      refine CW.region ?_
      refine RL.y rfl (y_asg rfl) ?_
      refine RL.nil ?_
      refine Fin.next ?_
      refine CW.ret ?_
      refine Fin.thenRet ?_
      refine Fin.ret1 rfl (by conv => lhs; whnf) ?_
      exact ⟨_, rfl, bF (fun h => by have := h.2.1.1; omega), hE12⟩
    · with_reducible first | (replace h2 := deNF h2) | (replace h2 := of_decide_eq_true h2) | (replace h2 := of_decide_eq_false h2) | (replace h2 := deNT h2) | (replace h2 := deNN h2) | (replace h2 := bnT h2) | (replace h2 := bnF h2) | skip
      refine RL.take (t := 13) rfl rfl rfl ?_
      refine RL.y rfl (y_fa fa33_1 rfl rfl) ?_
      refine RL.take (t := 13) rfl rfl rfl ?_
      refine RL.y rfl (y_loadv sc26 (eqw (hV.ext hE2)) rfl rfl) ?_
      refine RL.take (t := 13) rfl rfl rfl ?_
      refine RL.y rfl (y_len sT26 hc.1 hc.2.1 rfl) ?_
      refine RL.take (t := 13) rfl rfl rfl ?_
      refine RL.y rfl (y_gt rfl rfl) ?_
      refine RL.y rfl (y_pickF (v := .bool _) rfl rfl) ?_
      refine RL.nil ?_
      refine Fin.next ?_
      refine CW.cond rfl rfl (fun h3 => ?_) (fun h3 => ?_)
      · with_reducible first | (replace h3 := deNF h3) | (replace h3 := of_decide_eq_true h3) | (replace h3 := of_decide_eq_false h3) | (replace h3 := deNT h3) | (replace h3 := deNN h3) | (replace h3 := bnT h3) | (replace h3 := bnF h3) | skip
        refine CW.seq ?_
        refine CW.region ?_
        refine RL.y rfl (y_asg rfl) ?_
        refine RL.nil ?_
        refine Fin.next ?_
        refine CW.ret ?_
        refine Fin.thenRet ?_
        refine Fin.ret1 rfl (by conv => lhs; whnf) ?_
        exact ⟨_, rfl, bF (fun h => by have := h.2.1.2; omega), hE12⟩
      · with_reducible first | (replace h3 := deNF h3) | (replace h3 := of_decide_eq_true h3) | (replace h3 := of_decide_eq_false h3) | (replace h3 := deNT h3) | (replace h3 := deNN h3) | (replace h3 := bnT h3) | (replace h3 := bnF h3) | skip
        refine CW.skip ?_
        refine Fin.next ?_
        refine CW.seq ?_
        refine CW.region ?_
        refine RL.y rfl (y_fa fa33_1 rfl rfl) ?_
        refine RL.y rfl (y_loadv sc26 (eqw (hV.ext hE2)) rfl rfl) ?_
        refine RL.y rfl (y_fnl rfl) ?_
        refine RL.call rfl (ContainsFuncS_any (fun k => !decide (rts ps.length (rs.getD k []))) (hc.1.ext hE12) (fun w' k h hk => isPlan1_any ((hV.ext hE2).ext h) ((hb.ext hE12).ext h) ((hc.2.2 k (by rw [← hc.2.1]; exact hk)).ext (hE12.trans h)))) ?_
        rintro r w3 ⟨rfl, hE3⟩
        have hall := pln_any (ps := ps) (ds := ds) (rs := rs) h1 ⟨by omega, by omega⟩
        rw [← hc.2.1] at hall
        refine RL.y rfl (y_not rfl) ?_
        refine RL.y rfl (y_asg (v := .bool _) rfl) ?_
        refine RL.nil ?_
        refine Fin.next ?_
        refine CW.ret ?_
        refine Fin.ret1 rfl (by conv => lhs; whnf) ?_
        exact ⟨_, rfl, congrArg Value.bool hall, hE12.trans hE3⟩

theorem l10Key_any {w : World} {v : Value} {ps : List Int} {ds : List Bool} {rs : List (List Int)} {k : Int} (hp : RdP w v ps ds rs) :
    Does Try.prog 72 #[v, .int .i64 k] w (fun r w' => r = .bool (decide (isKey rs k)) ∧ Ext w w') := by
  obtain ⟨vp, vd, vr, rfl, hb, hr⟩ := hp
  obtain ⟨cs, hc⟩ := hr
  have hxl := hc.le
  refine enter Try.func72 rfl 11 Try.ntmps72 rfl (by kernel_rfl) ?_
  refine CW.seq ?_
  refine CW.region ?_
  refine RL.box (cs := [vp, vd, vr]) rfl rfl rfl (fun w1 hV hE1 => ?_)
  refine RL.y rfl (y_asg rfl) ?_
  refine RL.nil ?_
  refine Fin.next ?_
  refine CW.seq ?_
  refine CW.region ?_
  refine RL.y rfl (y_mov (v := .int _ _) rfl) ?_
  refine RL.y rfl (y_fa fa33_1 rfl rfl) ?_
  refine RL.y rfl (y_loadv sc26 (eqw (hV)) rfl rfl) ?_
  refine RL.y rfl (y_len sT26 hc.1 hc.2.1 rfl) ?_
  refine RL.y rfl (y_sub rfl rfl (IntWalk.i64_in _ (by omega))) ?_
  refine RL.call rfl (l01In_any) ?_
  rintro r w2 ⟨rfl, rfl⟩
  refine RL.y rfl (y_asg (v := .bool _) rfl) ?_
  refine RL.nil ?_
  refine Fin.next ?_
  refine CW.ret ?_
  refine Fin.ret1 rfl (by conv => lhs; whnf) ?_
  exact ⟨_, rfl, rfl, hE1⟩

theorem l10Door_any {w : World} {v : Value} {ps : List Int} {ds : List Bool} {rs : List (List Int)} {d : Int} (hp : RdP w v ps ds rs) (hl : ds.length = ps.length) :
    Does Try.prog 73 #[v, .int .i64 d] w (fun r w' => r = .bool (decide (isDoor ps ds d)) ∧ Ext w w') := by
  obtain ⟨vp, vd, vr, rfl, hb, hr⟩ := hp
  have hb0 := hb
  obtain ⟨up, ud, e, hpp, hpd⟩ := hb
  obtain ⟨rfl, rfl⟩ : vp = up ∧ vd = ud := by simpa using e
  refine enter Try.func73 rfl 17 Try.ntmps73 rfl (by kernel_rfl) ?_
  refine CW.seq ?_
  refine CW.region ?_
  refine RL.box (cs := [vp, vd, vr]) rfl rfl rfl (fun w1 hV hE1 => ?_)
  refine RL.y rfl (y_asg rfl) ?_
  refine RL.nil ?_
  refine Fin.next ?_
  refine CW.seq ?_
  refine CW.region ?_
  refine RL.y rfl (y_fa fa33_0 rfl rfl) ?_
  refine RL.y rfl (y_loadp (ds := [vp, vd]) ag31 (eqw (hV)) rfl rfl rfl) ?_
  refine RL.y rfl (y_mov (v := .int _ _) rfl) ?_
  refine RL.call rfl (l09Node_any (hb0.ext hE1)) ?_
  rintro r w2 ⟨rfl, hE2⟩
  have hE12 := hE1.trans hE2
  refine RL.y rfl (y_mov (v := .bool _) rfl) ?_
  refine RL.split (t := 9) rfl rfl (fun h1 => ?_) (fun h1 => ?_)
  · with_reducible first | (replace h1 := deNF h1) | (replace h1 := of_decide_eq_true h1) | (replace h1 := of_decide_eq_false h1) | (replace h1 := deNT h1) | (replace h1 := deNN h1) | (replace h1 := bnT h1) | (replace h1 := bnF h1) | skip
    have hlt : d.toNat < ds.length := by omega
    have hds : isD ds d.toNat = ds[d.toNat] := getD_lt hlt
    refine RL.take (t := 9) rfl rfl rfl ?_
    refine RL.y rfl (y_fa fa33_0 rfl rfl) ?_
    refine RL.take (t := 9) rfl rfl rfl ?_
    refine RL.y rfl (y_fa fa31_1 rfl rfl) ?_
    refine RL.take (t := 9) rfl rfl rfl ?_
    refine RL.y rfl (y_loadv sc23 (eqw (hV.ext hE2)) rfl rfl) ?_
    refine RL.take (t := 9) rfl rfl rfl ?_
    refine RL.y rfl (y_mov (v := .int _ _) rfl) ?_
    refine RL.take (t := 9) rfl rfl rfl ?_
    refine RL.y rfl (y_ixi sT23 (eqw (hpd.ext hE12)) h1.1 (by rw [bools_len]; omega) rfl rfl) ?_
    refine RL.take (t := 9) rfl rfl rfl ?_
    refine RL.y rfl (y_load sc4 (eqw (hpd.ext hE12)) (bools_at hlt) rfl) ?_
    refine RL.y rfl (y_pickT (v := .bool _) rfl rfl) ?_
    refine RL.y rfl (y_asg (v := .bool _) rfl) ?_
    refine RL.nil ?_
    refine Fin.next ?_
    refine CW.ret ?_
    refine Fin.ret1 rfl (by conv => lhs; whnf) ?_
    exact ⟨_, rfl, congrArg Value.bool (by rw [Bool.eq_iff_iff, decide_eq_true_eq]; exact ⟨fun h => ⟨h1, by rw [hds]; exact h⟩, fun h => by rw [← hds]; exact h.2⟩), hE12⟩
  · with_reducible first | (replace h1 := deNF h1) | (replace h1 := of_decide_eq_true h1) | (replace h1 := of_decide_eq_false h1) | (replace h1 := deNT h1) | (replace h1 := deNN h1) | (replace h1 := bnT h1) | (replace h1 := bnF h1) | skip
    refine RL.pass (t := 9) rfl rfl rfl rfl ?_
    refine RL.pass (t := 9) rfl rfl rfl rfl ?_
    refine RL.pass (t := 9) rfl rfl rfl rfl ?_
    refine RL.pass (t := 9) rfl rfl rfl rfl ?_
    refine RL.pass (t := 9) rfl rfl rfl rfl ?_
    refine RL.pass (t := 9) rfl rfl rfl rfl ?_
    refine RL.y rfl (y_pickF (v := .bool _) rfl rfl) ?_
    refine RL.y rfl (y_asg (v := .bool _) rfl) ?_
    refine RL.nil ?_
    refine Fin.next ?_
    refine CW.ret ?_
    refine Fin.ret1 rfl (by conv => lhs; whnf) ?_
    exact ⟨_, rfl, bF (fun h => h1 h.1), hE12⟩

theorem l10Code_any {w : World} {v : Value} {ps : List Int} {ds : List Bool} {rs : List (List Int)} {k : Int} (hp : RdP w v ps ds rs) :
    Does Try.prog 79 #[v, .int .i64 k] w (fun r w' => r = .int .i64 (pkC ps ds rs k) ∧ Ext w w') := by
  have hp0 := hp
  obtain ⟨vp, vd, vr, rfl, hb, hr⟩ := hp
  refine enter Try.func79 rfl 12 Try.ntmps79 rfl (by kernel_rfl) ?_
  refine CW.seq ?_
  refine CW.region ?_
  refine RL.box (cs := [vp, vd, vr]) rfl rfl rfl (fun w1 hV hE1 => ?_)
  refine RL.y rfl (y_asg rfl) ?_
  refine RL.nil ?_
  refine Fin.next ?_
  refine CW.seq ?_
  refine CW.seq ?_
  refine CW.region ?_
  refine RL.y rfl (y_loads ag33 rfl (eqw (hV)) rfl) ?_
  refine RL.call rfl (specIsPlan_any (hp0.ext hE1)) ?_
  rintro r w2 ⟨rfl, hE2⟩
  have hE12 := hE1.trans hE2
  refine RL.y rfl (y_not rfl) ?_
  refine RL.nil ?_
  refine Fin.next ?_
  refine CW.cond rfl rfl (fun h1 => ?_) (fun h1 => ?_)
  · with_reducible first | (replace h1 := deNF h1) | (replace h1 := of_decide_eq_true h1) | (replace h1 := of_decide_eq_false h1) | (replace h1 := deNT h1) | (replace h1 := deNN h1) | (replace h1 := bnT h1) | (replace h1 := bnF h1) | skip
    refine CW.seq ?_
    refine CW.region ?_
    refine RL.y rfl (y_asg rfl) ?_
    refine RL.nil ?_
    refine Fin.next ?_
    refine CW.ret ?_
    refine Fin.thenRet ?_
    refine Fin.ret1 rfl (by conv => lhs; whnf) ?_
    exact ⟨_, rfl, by unfold pkC; rw [if_neg h1], hE12⟩
  · with_reducible first | (replace h1 := deNF h1) | (replace h1 := of_decide_eq_true h1) | (replace h1 := of_decide_eq_false h1) | (replace h1 := deNT h1) | (replace h1 := deNN h1) | (replace h1 := bnT h1) | (replace h1 := bnF h1) | skip
    refine CW.skip ?_
    refine Fin.next ?_
    refine CW.seq ?_
    refine CW.seq ?_
    refine CW.region ?_
    refine RL.y rfl (y_loads ag33 rfl (eqw (hV.ext hE2)) rfl) ?_
    refine RL.y rfl (y_mov (v := .int _ _) rfl) ?_
    refine RL.call rfl (l10Key_any (hp0.ext hE12)) ?_
    rintro r w3 ⟨rfl, hE3⟩
    refine RL.y rfl (y_not rfl) ?_
    refine RL.nil ?_
    refine Fin.next ?_
    refine CW.cond rfl rfl (fun h2 => ?_) (fun h2 => ?_)
    · with_reducible first | (replace h2 := deNF h2) | (replace h2 := of_decide_eq_true h2) | (replace h2 := of_decide_eq_false h2) | (replace h2 := deNT h2) | (replace h2 := deNN h2) | (replace h2 := bnT h2) | (replace h2 := bnF h2) | skip
      refine CW.seq ?_
      refine CW.region ?_
      refine RL.y rfl (y_asg rfl) ?_
      refine RL.nil ?_
      refine Fin.next ?_
      refine CW.ret ?_
      refine Fin.thenRet ?_
      refine Fin.ret1 rfl (by conv => lhs; whnf) ?_
      exact ⟨_, rfl, by unfold pkC; rw [if_pos h1, if_neg h2], hE12.trans hE3⟩
    · with_reducible first | (replace h2 := deNF h2) | (replace h2 := of_decide_eq_true h2) | (replace h2 := of_decide_eq_false h2) | (replace h2 := deNT h2) | (replace h2 := deNN h2) | (replace h2 := bnT h2) | (replace h2 := bnF h2) | skip
      refine CW.skip ?_
      refine Fin.next ?_
      refine CW.seq ?_
      refine CW.region ?_
      refine RL.y rfl (y_asg rfl) ?_
      refine RL.nil ?_
      refine Fin.next ?_
      refine CW.ret ?_
      refine Fin.ret1 rfl (by conv => lhs; whnf) ?_
      exact ⟨_, rfl, by unfold pkC; rw [if_pos h1, if_pos h2], hE12.trans hE3⟩

theorem planCode_any {w : World} {v : Value} {ps : List Int} {ds : List Bool} {rs : List (List Int)} {k d : Int} (hp : RdP w v ps ds rs) :
    Does Try.prog 75 #[v, .int .i64 k, .int .i64 d] w (fun r w' => r = .int .i64 (pcC ps ds rs k d) ∧ Ext w w') := by
  have hp0 := hp
  obtain ⟨vp, vd, vr, rfl, hb, hr⟩ := hp
  obtain ⟨cs, hc⟩ := hr
  have hxl := hc.le
  obtain ⟨up, ud, e, hpp, hpd⟩ := hb
  obtain ⟨rfl, rfl⟩ : vp = up ∧ vd = ud := by simpa using e
  refine enter Try.func75 rfl 36 Try.ntmps75 rfl (by kernel_rfl) ?_
  refine CW.seq ?_
  refine CW.region ?_
  refine RL.box (cs := [vp, vd, vr]) rfl rfl rfl (fun w1 hV hE1 => ?_)
  refine RL.y rfl (y_asg rfl) ?_
  refine RL.nil ?_
  refine Fin.next ?_
  refine CW.seq ?_
  refine CW.seq ?_
  refine CW.region ?_
  refine RL.y rfl (y_loads ag33 rfl (eqw (hV)) rfl) ?_
  refine RL.call rfl (implIsPlan_any (hp0.ext hE1)) ?_
  rintro r w2 ⟨rfl, hE2⟩
  have hE12 := hE1.trans hE2
  refine RL.y rfl (y_not rfl) ?_
  refine RL.nil ?_
  refine Fin.next ?_
  refine CW.cond rfl rfl (fun h1 => ?_) (fun h1 => ?_)
  · with_reducible first | (replace h1 := deNF h1) | (replace h1 := of_decide_eq_true h1) | (replace h1 := of_decide_eq_false h1) | (replace h1 := deNT h1) | (replace h1 := deNN h1) | (replace h1 := bnT h1) | (replace h1 := bnF h1) | skip
    refine CW.seq ?_
    refine CW.region ?_
    refine RL.y rfl (y_asg rfl) ?_
    refine RL.nil ?_
    refine Fin.next ?_
    refine CW.ret ?_
    refine Fin.thenRet ?_
    refine Fin.ret1 rfl (by conv => lhs; whnf) ?_
    exact ⟨_, rfl, by unfold pcC; rw [if_neg h1], hE12⟩
  · with_reducible first | (replace h1 := deNF h1) | (replace h1 := of_decide_eq_true h1) | (replace h1 := of_decide_eq_false h1) | (replace h1 := deNT h1) | (replace h1 := deNN h1) | (replace h1 := bnT h1) | (replace h1 := bnF h1) | skip
    have hl := h1.1.1.2.1
    have h24 := h1.1.1.1
    refine CW.skip ?_
    refine Fin.next ?_
    refine CW.seq ?_
    refine CW.seq ?_
    refine CW.region ?_
    refine RL.y rfl (y_mov (v := .int _ _) rfl) ?_
    refine RL.y rfl (y_fa fa33_1 rfl rfl) ?_
    refine RL.y rfl (y_loadv sc26 (eqw (hV.ext hE2)) rfl rfl) ?_
    refine RL.y rfl (y_len sT26 hc.1 hc.2.1 rfl) ?_
    refine RL.y rfl (y_sub rfl rfl (IntWalk.i64_in _ (by omega))) ?_
    refine RL.call rfl (within_any) ?_
    rintro r w3 ⟨rfl, rfl⟩
    refine RL.y rfl (y_not rfl) ?_
    refine RL.y rfl (y_mov (v := .bool _) rfl) ?_
    refine RL.split (t := 17) rfl rfl (fun h2 => ?_) (fun h2 => ?_)
    · with_reducible first | (replace h2 := deNF h2) | (replace h2 := of_decide_eq_true h2) | (replace h2 := of_decide_eq_false h2) | (replace h2 := deNT h2) | (replace h2 := deNN h2) | (replace h2 := bnT h2) | (replace h2 := bnF h2) | skip
      refine RL.pass (t := 17) rfl rfl rfl rfl ?_
      refine RL.pass (t := 17) rfl rfl rfl rfl ?_
      refine RL.pass (t := 17) rfl rfl rfl rfl ?_
      refine RL.pass (t := 17) rfl rfl rfl rfl ?_
      refine RL.pass (t := 17) rfl rfl rfl rfl ?_
      refine RL.pass (t := 17) rfl rfl rfl rfl ?_
      refine RL.pass (t := 17) rfl rfl rfl rfl ?_
      refine RL.pass (t := 17) rfl rfl rfl rfl ?_
      refine RL.y rfl (y_pickT (v := .bool _) rfl rfl) ?_
      refine RL.y rfl (y_mov (v := .bool _) rfl) ?_
      refine RL.pass (t := 27) rfl rfl rfl rfl ?_
      refine RL.pass (t := 27) rfl rfl rfl rfl ?_
      refine RL.pass (t := 27) rfl rfl rfl rfl ?_
      refine RL.pass (t := 27) rfl rfl rfl rfl ?_
      refine RL.pass (t := 27) rfl rfl rfl rfl ?_
      refine RL.pass (t := 27) rfl rfl rfl rfl ?_
      refine RL.pass (t := 27) rfl rfl rfl rfl ?_
      refine RL.y rfl (y_pickT (v := .bool _) rfl rfl) ?_
      refine RL.nil ?_
      refine Fin.next ?_
      refine CW.condT rfl rfl ?_
      refine CW.seq ?_
      refine CW.region ?_
      refine RL.y rfl (y_asg rfl) ?_
      refine RL.nil ?_
      refine Fin.next ?_
      refine CW.ret ?_
      refine Fin.thenRet ?_
      refine Fin.ret1 rfl (by conv => lhs; whnf) ?_
      exact ⟨_, rfl, by unfold pcC; rw [if_pos h1, if_neg (fun h => h2 h.1)], hE12⟩
    · with_reducible first | (replace h2 := deNF h2) | (replace h2 := of_decide_eq_true h2) | (replace h2 := of_decide_eq_false h2) | (replace h2 := deNT h2) | (replace h2 := deNN h2) | (replace h2 := bnT h2) | (replace h2 := bnF h2) | skip
      refine RL.take (t := 17) rfl rfl rfl ?_
      refine RL.y rfl (y_mov (v := .int _ _) rfl) ?_
      refine RL.take (t := 17) rfl rfl rfl ?_
      refine RL.y rfl (y_fa fa33_0 rfl rfl) ?_
      refine RL.take (t := 17) rfl rfl rfl ?_
      refine RL.y rfl (y_fa fa31_1 rfl rfl) ?_
      refine RL.take (t := 17) rfl rfl rfl ?_
      refine RL.y rfl (y_loadv sc23 (eqw (hV.ext hE2)) rfl rfl) ?_
      refine RL.take (t := 17) rfl rfl rfl ?_
      refine RL.y rfl (y_len sT23 hpd ((bools_len _).trans hl) rfl) ?_
      refine RL.take (t := 17) rfl rfl rfl ?_
      refine RL.y rfl (y_sub rfl rfl (IntWalk.i64_in _ (by omega))) ?_
      refine RL.take (t := 17) rfl rfl rfl ?_
      refine RL.call rfl (within_any) ?_
      rintro r w3 ⟨rfl, rfl⟩
      refine RL.take (t := 17) rfl rfl rfl ?_
      refine RL.y rfl (y_not rfl) ?_
      refine RL.y rfl (y_pickF (v := .bool _) rfl rfl) ?_
      refine RL.y rfl (y_mov (v := .bool _) rfl) ?_
      refine RL.split (t := 27) rfl rfl (fun h3 => ?_) (fun h3 => ?_)
      · with_reducible first | (replace h3 := deNF h3) | (replace h3 := of_decide_eq_true h3) | (replace h3 := of_decide_eq_false h3) | (replace h3 := deNT h3) | (replace h3 := deNN h3) | (replace h3 := bnT h3) | (replace h3 := bnF h3) | skip
        refine RL.pass (t := 27) rfl rfl rfl rfl ?_
        refine RL.pass (t := 27) rfl rfl rfl rfl ?_
        refine RL.pass (t := 27) rfl rfl rfl rfl ?_
        refine RL.pass (t := 27) rfl rfl rfl rfl ?_
        refine RL.pass (t := 27) rfl rfl rfl rfl ?_
        refine RL.pass (t := 27) rfl rfl rfl rfl ?_
        refine RL.pass (t := 27) rfl rfl rfl rfl ?_
        refine RL.y rfl (y_pickT (v := .bool _) rfl rfl) ?_
        refine RL.nil ?_
        refine Fin.next ?_
        refine CW.condT rfl rfl ?_
        refine CW.seq ?_
        refine CW.region ?_
        refine RL.y rfl (y_asg rfl) ?_
        refine RL.nil ?_
        refine Fin.next ?_
        refine CW.ret ?_
        refine Fin.thenRet ?_
        refine Fin.ret1 rfl (by conv => lhs; whnf) ?_
        exact ⟨_, rfl, by unfold pcC; rw [if_pos h1, if_neg (fun h => h3 h.2.1)], hE12⟩
      · with_reducible first | (replace h3 := deNF h3) | (replace h3 := of_decide_eq_true h3) | (replace h3 := of_decide_eq_false h3) | (replace h3 := deNT h3) | (replace h3 := deNN h3) | (replace h3 := bnT h3) | (replace h3 := bnF h3) | skip
        have hlt : d.toNat < ds.length := by omega
        have hds : isD ds d.toNat = ds[d.toNat] := getD_lt hlt
        refine RL.take (t := 27) rfl rfl rfl ?_
        refine RL.y rfl (y_fa fa33_0 rfl rfl) ?_
        refine RL.take (t := 27) rfl rfl rfl ?_
        refine RL.y rfl (y_fa fa31_1 rfl rfl) ?_
        refine RL.take (t := 27) rfl rfl rfl ?_
        refine RL.y rfl (y_loadv sc23 (eqw (hV.ext hE2)) rfl rfl) ?_
        refine RL.take (t := 27) rfl rfl rfl ?_
        refine RL.y rfl (y_mov (v := .int _ _) rfl) ?_
        refine RL.take (t := 27) rfl rfl rfl ?_
        refine RL.y rfl (y_ixi sT23 (eqw (hpd.ext hE12)) h3.1 (by rw [bools_len]; omega) rfl rfl) ?_
        refine RL.take (t := 27) rfl rfl rfl ?_
        refine RL.y rfl (y_load sc4 (eqw (hpd.ext hE12)) (bools_at hlt) rfl) ?_
        refine RL.take (t := 27) rfl rfl rfl ?_
        refine RL.y rfl (y_not rfl) ?_
        refine RL.y rfl (y_pickF (v := .bool _) rfl rfl) ?_
        refine RL.nil ?_
        refine Fin.next ?_
        refine CW.cond rfl rfl (fun h4 => ?_) (fun h4 => ?_)
        · with_reducible first | (replace h4 := deNF h4) | (replace h4 := of_decide_eq_true h4) | (replace h4 := of_decide_eq_false h4) | (replace h4 := deNT h4) | (replace h4 := deNN h4) | (replace h4 := bnT h4) | (replace h4 := bnF h4) | skip
          refine CW.seq ?_
          refine CW.region ?_
          refine RL.y rfl (y_asg rfl) ?_
          refine RL.nil ?_
          refine Fin.next ?_
          refine CW.ret ?_
          refine Fin.thenRet ?_
          refine Fin.ret1 rfl (by conv => lhs; whnf) ?_
          exact ⟨_, rfl, by unfold pcC; rw [if_pos h1, if_neg (fun h => by have := h.2.2; rw [hds, h4] at this; cases this)], hE12⟩
        · with_reducible first | (replace h4 := deNF h4) | (replace h4 := of_decide_eq_true h4) | (replace h4 := of_decide_eq_false h4) | (replace h4 := deNT h4) | (replace h4 := deNN h4) | (replace h4 := bnT h4) | (replace h4 := bnF h4) | skip
          refine CW.skip ?_
          refine Fin.next ?_
          refine CW.seq ?_
          refine CW.region ?_
          refine RL.y rfl (y_asg rfl) ?_
          refine RL.nil ?_
          refine Fin.next ?_
          refine CW.ret ?_
          refine Fin.ret1 rfl (by conv => lhs; whnf) ?_
          exact ⟨_, rfl, by unfold pcC; rw [if_pos h1, if_pos ⟨h2, h3, by rw [hds]; exact h4⟩], hE12⟩

theorem someDoor_any {w : World} {v : Value} {ps : List Int} {ds : List Bool} {rs : List (List Int)} (hp : RdP w v ps ds rs) :
    Does Try.prog 81 #[v] w (fun r w' => ∃ i : Int, r = .int .i64 (max 0 i) ∧ idxF (fun x => true == x) ds i ∧ Ext w w') := by
  obtain ⟨vp, vd, vr, rfl, hb, hr⟩ := hp
  obtain ⟨up, ud, e, hpp, hpd⟩ := hb
  obtain ⟨rfl, rfl⟩ : vp = up ∧ vd = ud := by simpa using e
  refine enter Try.func81 rfl 8 Try.ntmps81 rfl (by kernel_rfl) ?_
  refine CW.seq ?_
  refine CW.region ?_
  refine RL.box (cs := [vp, vd, vr]) rfl rfl rfl (fun w1 hV hE1 => ?_)
  refine RL.y rfl (y_asg rfl) ?_
  refine RL.nil ?_
  refine Fin.next ?_
  refine CW.seq ?_
  refine CW.region ?_
  refine RL.y rfl (y_fa fa33_0 rfl rfl) ?_
  refine RL.y rfl (y_fa fa31_1 rfl rfl) ?_
  refine RL.y rfl (y_loadv sc23 (eqw (hV)) rfl rfl) ?_
  refine RL.call rfl (IndexB_any (hpd.ext hE1)) ?_
  rintro r w2 ⟨i, rfl, hi, rfl⟩
  refine RL.y rfl (y_max rfl rfl) ?_
  refine RL.y rfl (y_asg (v := .int _ _) rfl) ?_
  refine RL.nil ?_
  refine Fin.next ?_
  refine CW.ret ?_
  refine Fin.ret1 rfl (by conv => lhs; whnf) ?_
  exact ⟨_, rfl, i, rfl, hi, hE1⟩
end Go.Proofs.Ytkkeipogkjlneaa
