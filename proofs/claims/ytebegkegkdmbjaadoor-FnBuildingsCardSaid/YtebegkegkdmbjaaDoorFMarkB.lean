/-
  'mark' and 'held' on slices of bool and on buildings.
-/
import Derived.Test.YtebegkegkdmbjaaDoorFBld1
import Derived.Test.YtebegkegkdmbjaaDoorMarks
namespace Go.Proofs.YtebegkegkdmbjaaDoor
open B Go.RowKit

theorem markBoolS_ex {w : World} {B : Nat} {v : Value} {xs : List Bool} {k0 : Int} (hv : OV w B 4 v (bools xs)) (h0 : 0 ≤ k0) (hb : k0 + xs.length ≤ 4611686018427387904) :
    Does Tryd.prog 29 #[v, .int .i64 k0] w (fun r w' => r = .int .i64 (k0 + xs.length) ∧ OV w' B 4 v (bools (marksB xs.length k0)) ∧ w.grownBy w' v.ownBlock) := by
  refine enter Tryd.func29 rfl 21 Tryd.ntmps29 rfl (by kernel_rfl) ?_
  refine CW.seq ?_
  refine CW.region ?_
  refine RL.y rfl (y_asg rfl) ?_
  refine RL.nil ?_
  refine Fin.next ?_
  refine CW.seq ?_
  refine CW.seq ?_
  refine CW.region ?_
  refine RL.y rfl (y_asg rfl) ?_
  refine RL.nil ?_
  refine Fin.next ?_
  refine CW.block ?_
  refine CW.loop (fun m E w' => ∃ k : Nat, m = xs.length - k ∧ k ≤ xs.length ∧ agrees E [(0, v), (1, .int .i64 (k0 + k)), (5, .int .i64 (k : Int))] ∧ OV w' B 4 v (bools (marksB k k0 ++ xs.drop k)) ∧ w.grownBy w' v.ownBlock) _ (⟨0, rfl, Nat.zero_le _, ⟨rfl, by rw [show (k0 + ((0 : Nat) : Int)) = k0 from by omega]; rfl, rfl, trivial⟩, by simpa [marksB] using hv, World.grownBy.refl _ _⟩) ?_
  · rintro m E w2 ⟨k, rfl, hk, hag, ho2, hg2⟩
    refine CW.re _ hag rfl ?_
    refine CW.seq ?_
    refine CW.seq ?_
    refine CW.region ?_
    refine RL.y rfl (y_mov (v := .int _ _) rfl) ?_
    refine RL.y rfl (y_mov (by conv => lhs; whnf)) ?_
    refine RL.y rfl (y_len sT23 ho2.sv (m := xs.length) (by simp [bools, marksB]; omega) rfl) ?_
    refine RL.y rfl (y_lt rfl rfl) ?_
    refine RL.nil ?_
    refine Fin.next ?_
    refine CW.cond rfl rfl (fun hc => ?_) (fun hc => ?_)
    · with_reducible first | (replace hc := deNF hc) | (replace hc := of_decide_eq_true hc) | (replace hc := of_decide_eq_false hc) | (replace hc := deNT hc) | (replace hc := deNN hc) | (replace hc := bnT hc) | (replace hc := bnF hc) | skip
      have hlt : k < xs.length := by omega
      refine CW.skip ?_
      refine Fin.next ?_
      refine CW.seq ?_
      refine CW.block ?_
      refine CW.seq ?_
      refine CW.region ?_
      refine RL.y rfl (y_mov (by conv => lhs; whnf)) ?_
      refine RL.y rfl (y_mov (v := .int _ _) rfl) ?_
      refine RL.y rfl (y_mov (v := .int _ _) rfl) ?_
      refine RL.y rfl (y_rem rfl rfl (by omega) rfl) ?_
      refine RL.y rfl (y_eq rfl rfl) ?_
      refine RL.y rfl (y_ixa sT23 (eqw (ho2.sv)) (k := k) (by simp [bools, marksB]; omega) rfl rfl) ?_
      refine RL.store sT23 ho2 (k := k) (x := .bool (mb (k0 + (k : Int)))) (by simp [bools, marksB]; omega) rfl rfl rfl (fun w3 ho3 hg3 => ?_)
      refine RL.nil ?_
      refine Fin.next ?_
      refine CW.region ?_
      refine RL.y rfl (y_mov (v := .int _ _) rfl) ?_
      refine RL.y rfl (y_add rfl rfl (IntWalk.i64_in _ (by omega))) ?_
      refine RL.y rfl (y_asg (v := .int _ _) rfl) ?_
      refine RL.nil ?_
      refine Fin.blockNormal ?_
      refine Fin.next ?_
      refine CW.region ?_
      refine RL.y rfl (y_mov (v := .int _ _) rfl) ?_
      refine RL.y rfl (y_add rfl rfl (IntWalk.i64_in _ (by omega))) ?_
      refine RL.y rfl (y_asg (v := .int _ _) rfl) ?_
      refine RL.nil ?_
      refine Fin.le ?_
      exact ⟨xs.length - (k + 1), by omega, k + 1, rfl, hlt, ⟨rfl, by rw [show (k0 + ((k + 1 : Nat) : Int)) = k0 + k + 1 from by omega]; rfl, rfl, trivial⟩, by rw [bools_set, marksB_step hlt] at ho3; exact ho3, grown_trans hg2 hg3⟩
    · with_reducible first | (replace hc := deNF hc) | (replace hc := of_decide_eq_true hc) | (replace hc := of_decide_eq_false hc) | (replace hc := deNT hc) | (replace hc := deNN hc) | (replace hc := bnT hc) | (replace hc := bnF hc) | skip
      obtain rfl : k = xs.length := by omega
      refine CW.exit ?_
      refine Fin.thenExit ?_
      refine Fin.thenExit ?_
      refine Fin.blockHit ?_
      refine Fin.next ?_
      refine CW.seq ?_
      refine CW.region ?_
      refine RL.y rfl (y_mov (v := .int _ _) rfl) ?_
      refine RL.y rfl (y_asg (v := .int _ _) rfl) ?_
      refine RL.nil ?_
      refine Fin.next ?_
      refine CW.ret ?_
      refine Fin.ret1 rfl (by conv => lhs; whnf) ?_
      exact ⟨_, rfl, rfl, by simpa using ho2, hg2⟩

theorem heldBoolS_any {w : World} {v : Value} {xs : List Bool} {k0 : Int} (hv : SB w v xs) (h0 : 0 ≤ k0) (hb : k0 + xs.length ≤ 4611686018427387904) :
    Does Tryd.prog 31 #[v, .int .i64 k0] w (fun r w' => r = .int .i64 (heldBl xs k0) ∧ Ext w w') := by
  refine enter Tryd.func31 rfl 23 Tryd.ntmps31 rfl (by kernel_rfl) ?_
  refine CW.seq ?_
  refine CW.region ?_
  refine RL.y rfl (y_asg rfl) ?_
  refine RL.nil ?_
  refine Fin.next ?_
  refine CW.seq ?_
  refine CW.seq ?_
  refine CW.region ?_
  refine RL.y rfl (y_asg rfl) ?_
  refine RL.nil ?_
  refine Fin.next ?_
  refine CW.block ?_
  refine CW.loop (fun m E w' => ∃ k : Nat, m = xs.length - k ∧ k ≤ xs.length ∧ agrees E [(0, v), (1, .int .i64 (k0 + k)), (5, .int .i64 (k : Int))] ∧ xs.take k = marksB k k0 ∧ Ext w w') _ (⟨0, rfl, Nat.zero_le _, ⟨rfl, by rw [show (k0 + ((0 : Nat) : Int)) = k0 from by omega]; rfl, rfl, trivial⟩, rfl, Ext.refl w⟩) ?_
  · rintro m E w2 ⟨k, rfl, hk, hag, htk, hE2⟩
    refine CW.re _ hag rfl ?_
    refine CW.seq ?_
    refine CW.seq ?_
    refine CW.region ?_
    refine RL.y rfl (y_mov (v := .int _ _) rfl) ?_
    refine RL.y rfl (y_mov (by conv => lhs; whnf)) ?_
    refine RL.y rfl (y_len sT23 hv (bools_len _) rfl) ?_
    refine RL.y rfl (y_lt rfl rfl) ?_
    refine RL.nil ?_
    refine Fin.next ?_
    refine CW.cond rfl rfl (fun hc => ?_) (fun hc => ?_)
    · with_reducible first | (replace hc := deNF hc) | (replace hc := of_decide_eq_true hc) | (replace hc := of_decide_eq_false hc) | (replace hc := deNT hc) | (replace hc := deNN hc) | (replace hc := bnT hc) | (replace hc := bnF hc) | skip
      have hlt : k < xs.length := by omega
      refine CW.skip ?_
      refine Fin.next ?_
      refine CW.seq ?_
      refine CW.block ?_
      refine CW.seq ?_
      refine CW.seq ?_
      refine CW.region ?_
      refine RL.y rfl (y_mov (by conv => lhs; whnf)) ?_
      refine RL.y rfl (y_mov (v := .int _ _) rfl) ?_
      refine RL.y rfl (y_ixa sT23 (eqw (hv.ext hE2)) (k := k) (bools_lt hlt) rfl rfl) ?_
      refine RL.y rfl (y_load sc4 (eqw (hv.ext hE2)) (bools_at hlt) rfl) ?_
      refine RL.y rfl (y_mov (v := .int _ _) rfl) ?_
      refine RL.y rfl (y_rem rfl rfl (by omega) rfl) ?_
      refine RL.y rfl (y_eq rfl rfl) ?_
      refine RL.y rfl (y_bne Tryd.underlying4 rfl rfl) ?_
      refine RL.nil ?_
      refine Fin.next ?_
      refine CW.cond rfl rfl (fun hc2 => ?_) (fun hc2 => ?_)
      · with_reducible first | (replace hc2 := deNF hc2) | (replace hc2 := of_decide_eq_true hc2) | (replace hc2 := of_decide_eq_false hc2) | (replace hc2 := deNT hc2) | (replace hc2 := deNN hc2) | (replace hc2 := bnT hc2) | (replace hc2 := bnF hc2) | skip
        have hne : xs[k] ≠ mb (k0 + (k : Int)) := fun e => by unfold mb at e; simp [e] at hc2
        refine CW.seq ?_
        refine CW.region ?_
        refine RL.y rfl (y_asg rfl) ?_
        refine RL.nil ?_
        refine Fin.next ?_
        refine CW.ret ?_
        refine Fin.thenRet ?_
        refine Fin.blockRet ?_
        refine Fin.thenRet ?_
        refine Fin.thenRet ?_
        refine Fin.blockRet ?_
        refine Fin.thenRet ?_
        refine Fin.ret1 rfl (by conv => lhs; whnf) ?_
        exact ⟨_, rfl, by unfold heldBl; rw [if_neg (fun e => hne (marksB_get e hlt))], hE2⟩
      · with_reducible first | (replace hc2 := deNF hc2) | (replace hc2 := of_decide_eq_true hc2) | (replace hc2 := of_decide_eq_false hc2) | (replace hc2 := deNT hc2) | (replace hc2 := deNN hc2) | (replace hc2 := bnT hc2) | (replace hc2 := bnF hc2) | skip
        have he : xs[k] = mb (k0 + (k : Int)) := by unfold mb; simpa using hc2
        refine CW.skip ?_
        refine Fin.next ?_
        refine CW.region ?_
        refine RL.y rfl (y_mov (v := .int _ _) rfl) ?_
        refine RL.y rfl (y_add rfl rfl (IntWalk.i64_in _ (by omega))) ?_
        refine RL.y rfl (y_asg (v := .int _ _) rfl) ?_
        refine RL.nil ?_
        refine Fin.blockNormal ?_
        refine Fin.next ?_
        refine CW.region ?_
        refine RL.y rfl (y_mov (v := .int _ _) rfl) ?_
        refine RL.y rfl (y_add rfl rfl (IntWalk.i64_in _ (by omega))) ?_
        refine RL.y rfl (y_asg (v := .int _ _) rfl) ?_
        refine RL.nil ?_
        refine Fin.le ?_
        exact ⟨xs.length - (k + 1), by omega, k + 1, rfl, hlt, ⟨rfl, by rw [show (k0 + ((k + 1 : Nat) : Int)) = k0 + k + 1 from by omega]; rfl, rfl, trivial⟩, by rw [List.take_succ_eq_append_getElem hlt, marksB_succ, htk, he], hE2⟩
    · with_reducible first | (replace hc := deNF hc) | (replace hc := of_decide_eq_true hc) | (replace hc := of_decide_eq_false hc) | (replace hc := deNT hc) | (replace hc := deNN hc) | (replace hc := bnT hc) | (replace hc := bnF hc) | skip
      obtain rfl : k = xs.length := by omega
      refine CW.exit ?_
      refine Fin.thenExit ?_
      refine Fin.thenExit ?_
      refine Fin.blockHit ?_
      refine Fin.next ?_
      refine CW.seq ?_
      refine CW.region ?_
      refine RL.y rfl (y_mov (v := .int _ _) rfl) ?_
      refine RL.y rfl (y_asg (v := .int _ _) rfl) ?_
      refine RL.nil ?_
      refine Fin.next ?_
      refine CW.ret ?_
      refine Fin.ret1 rfl (by conv => lhs; whnf) ?_
      exact ⟨_, rfl, by unfold heldBl; rw [if_pos (by rwa [List.take_length] at htk)], hE2⟩

theorem markBuilding_ex {w : World} {B U : Nat} {b : Value} {ps : List Int} {ds : List Bool} {k0 : Int} (hv : OwB w B U b ps ds) (h0 : 0 ≤ k0) (hb : k0 + ps.length + ds.length ≤ 4611686018427387904) :
    Does Tryd.prog 9 #[b, .int .i64 k0] w (fun r w' => r = .int .i64 (k0 + ps.length + ds.length) ∧ OwB w' B U b (marks ps.length k0) (marksB ds.length (k0 + ps.length)) ∧ Mod B U w w') := by
  obtain ⟨vp, vd, rfl, hp, hd, hnb⟩ := hv
  have hU := hp.2.1
  refine enter Tryd.func9 rfl 14 Tryd.ntmps9 rfl (by kernel_rfl) ?_
  refine CW.seq ?_
  refine CW.region ?_
  refine RL.box (cs := [vp, vd]) rfl rfl rfl (fun w1 hV hE1 => ?_)
  refine RL.y rfl (y_asg rfl) ?_
  refine RL.nil ?_
  refine Fin.next ?_
  refine CW.seq ?_
  refine CW.region ?_
  refine RL.y rfl (y_fa fa25_0 rfl rfl) ?_
  refine RL.y rfl (y_loadv sc22 (eqw (hV)) rfl rfl) ?_
  refine RL.y rfl (y_mov (v := .int _ _) rfl) ?_
  refine RL.call rfl (markInt64S_any (hp.ext hE1).ov h0 (by omega)) ?_
  rintro r w2 ⟨rfl, ho2, hg2⟩
  have hV2 := hV.grown hg2 (fun e => by have := (hp.lt _ e).2; omega)
  have hs1 := hE1.size
  have hs2 := hg2.size
  have hd2 := (hd.ext hE1).other hg2 hnb.symm
  have hM2 := (hE1.mod B U).trans (grown_mod hg2 hp.lt)
  refine RL.y rfl (y_asg (v := .int _ _) rfl) ?_
  refine RL.nil ?_
  refine Fin.next ?_
  refine CW.seq ?_
  refine CW.region ?_
  refine RL.y rfl (y_fa fa25_1 rfl rfl) ?_
  refine RL.y rfl (y_loadv sc23 (eqw (hV2)) rfl rfl) ?_
  refine RL.y rfl (y_mov (v := .int _ _) rfl) ?_
  refine RL.call rfl (markBoolS_ex hd2.ov (by omega) (by omega)) ?_
  rintro r w3 ⟨rfl, ho3, hg3⟩
  have hp2 : OU w2 B U 2 vp (ints (marks ps.length k0)) := ⟨ho2, by omega, hp.2.2⟩
  have hp3 := hp2.other hg3 hnb
  have hs3 := hg3.size
  refine RL.y rfl (y_asg (v := .int _ _) rfl) ?_
  refine RL.nil ?_
  refine Fin.next ?_
  refine CW.seq ?_
  refine CW.region ?_
  refine RL.y rfl (y_mov (v := .int _ _) rfl) ?_
  refine RL.y rfl (y_asg (v := .int _ _) rfl) ?_
  refine RL.nil ?_
  refine Fin.next ?_
  refine CW.ret ?_
  refine Fin.ret1 rfl (by conv => lhs; whnf) ?_
  exact ⟨_, rfl, rfl, ⟨vp, vd, rfl, hp3, ⟨ho3, by omega, hd.2.2⟩, hnb⟩, hM2.trans (grown_mod hg3 hd.lt)⟩

theorem heldBuilding_any {w : World} {b : Value} {ps : List Int} {ds : List Bool} {k0 : Int} (hv : RdB w b ps ds) (h0 : 0 ≤ k0) (hb : k0 + ps.length + ds.length ≤ 4611686018427387904) :
    Does Tryd.prog 10 #[b, .int .i64 k0] w (fun r w' => r = .int .i64 (heldBd ps ds k0) ∧ Ext w w') := by
  obtain ⟨vp, vd, rfl, hp, hd⟩ := hv
  refine enter Tryd.func10 rfl 18 Tryd.ntmps10 rfl (by kernel_rfl) ?_
  refine CW.seq ?_
  refine CW.region ?_
  refine RL.box (cs := [vp, vd]) rfl rfl rfl (fun w1 hV hE1 => ?_)
  refine RL.y rfl (y_asg rfl) ?_
  refine RL.nil ?_
  refine Fin.next ?_
  refine CW.seq ?_
  refine CW.region ?_
  refine RL.y rfl (y_fa fa25_0 rfl rfl) ?_
  refine RL.y rfl (y_loadv sc22 (eqw (hV)) rfl rfl) ?_
  refine RL.y rfl (y_mov (v := .int _ _) rfl) ?_
  refine RL.call rfl (heldInt64S_any (hp.ext hE1) h0 (by omega)) ?_
  rintro r w2 ⟨rfl, hE2⟩
  have hE12 := hE1.trans hE2
  have hrg := heldI_range ps k0
  refine RL.y rfl (y_asg (v := .int _ _) rfl) ?_
  refine RL.nil ?_
  refine Fin.next ?_
  refine CW.seq ?_
  refine CW.seq ?_
  refine CW.region ?_
  refine RL.y rfl (y_mov (v := .int _ _) rfl) ?_
  refine RL.y rfl (y_lt rfl rfl) ?_
  refine RL.nil ?_
  refine Fin.next ?_
  refine CW.cond rfl rfl (fun hc => ?_) (fun hc => ?_)
  · with_reducible first | (replace hc := deNF hc) | (replace hc := of_decide_eq_true hc) | (replace hc := of_decide_eq_false hc) | (replace hc := deNT hc) | (replace hc := deNN hc) | (replace hc := bnT hc) | (replace hc := bnF hc) | skip
    refine CW.seq ?_
    refine CW.region ?_
    refine RL.y rfl (y_asg rfl) ?_
    refine RL.nil ?_
    refine Fin.next ?_
    refine CW.ret ?_
    refine Fin.thenRet ?_
    refine Fin.ret1 rfl (by conv => lhs; whnf) ?_
    exact ⟨_, rfl, by unfold heldBd; rw [if_pos hc], hE12⟩
  · with_reducible first | (replace hc := deNF hc) | (replace hc := of_decide_eq_true hc) | (replace hc := of_decide_eq_false hc) | (replace hc := deNT hc) | (replace hc := deNN hc) | (replace hc := bnT hc) | (replace hc := bnF hc) | skip
    refine CW.skip ?_
    refine Fin.next ?_
    refine CW.seq ?_
    refine CW.region ?_
    refine RL.y rfl (y_fa fa25_1 rfl rfl) ?_
    refine RL.y rfl (y_loadv sc23 (eqw (hV.ext hE2)) rfl rfl) ?_
    refine RL.y rfl (y_mov (v := .int _ _) rfl) ?_
    refine RL.call rfl (heldBoolS_any (hd.ext hE12) (by omega) (by omega)) ?_
    rintro r w3 ⟨rfl, hE3⟩
    refine RL.y rfl (y_asg (v := .int _ _) rfl) ?_
    refine RL.nil ?_
    refine Fin.next ?_
    refine CW.seq ?_
    refine CW.seq ?_
    refine CW.region ?_
    refine RL.y rfl (y_mov (v := .int _ _) rfl) ?_
    refine RL.y rfl (y_lt rfl rfl) ?_
    refine RL.nil ?_
    refine Fin.next ?_
    refine CW.cond rfl rfl (fun hc2 => ?_) (fun hc2 => ?_)
    · with_reducible first | (replace hc2 := deNF hc2) | (replace hc2 := of_decide_eq_true hc2) | (replace hc2 := of_decide_eq_false hc2) | (replace hc2 := deNT hc2) | (replace hc2 := deNN hc2) | (replace hc2 := bnT hc2) | (replace hc2 := bnF hc2) | skip
      refine CW.seq ?_
      refine CW.region ?_
      refine RL.y rfl (y_asg rfl) ?_
      refine RL.nil ?_
      refine Fin.next ?_
      refine CW.ret ?_
      refine Fin.thenRet ?_
      refine Fin.ret1 rfl (by conv => lhs; whnf) ?_
      exact ⟨_, rfl, by unfold heldBd; rw [if_neg hc, if_pos hc2], hE12.trans hE3⟩
    · with_reducible first | (replace hc2 := deNF hc2) | (replace hc2 := of_decide_eq_true hc2) | (replace hc2 := of_decide_eq_false hc2) | (replace hc2 := deNT hc2) | (replace hc2 := deNN hc2) | (replace hc2 := bnT hc2) | (replace hc2 := bnF hc2) | skip
      refine CW.skip ?_
      refine Fin.next ?_
      refine CW.seq ?_
      refine CW.region ?_
      refine RL.y rfl (y_mov (v := .int _ _) rfl) ?_
      refine RL.y rfl (y_asg (v := .int _ _) rfl) ?_
      refine RL.nil ?_
      refine Fin.next ?_
      refine CW.ret ?_
      refine Fin.ret1 rfl (by conv => lhs; whnf) ?_
      exact ⟨_, rfl, by unfold heldBd; rw [if_neg hc, if_neg hc2], hE12.trans hE3⟩

/-- 'mark' on a building that a call has made. -/
theorem markB_own {w : World} {B U : Nat} {b : Value} {ps : List Int} {ds : List Bool} {k0 : Int} (hv : OwB w B U b ps ds) (h0 : 0 ≤ k0) (hb : k0 + ps.length + ds.length ≤ 4611686018427387904) :
    Does Tryd.prog 9 #[b, .int .i64 k0] w (fun r w' => ∃ (xs : List Int × List Bool) (k' : Int), r = .int .i64 k' ∧ OwB w' B U b xs.1 xs.2 ∧ heldBd xs.1 xs.2 k0 = k' ∧ k' = k0 + ps.length + ds.length ∧ (xs.1.length = ps.length ∧ xs.2.length = ds.length) ∧ Mod B U w w') :=
  (markBuilding_ex hv h0 hb).mono fun r w' ⟨hr, ho, hM⟩ => ⟨(marks ps.length k0, marksB ds.length (k0 + ps.length)), _, hr, ho, heldBd_marks h0, rfl, ⟨marks_len _ _, marksB_len _ _⟩, hM⟩
end Go.Proofs.YtebegkegkdmbjaaDoor
