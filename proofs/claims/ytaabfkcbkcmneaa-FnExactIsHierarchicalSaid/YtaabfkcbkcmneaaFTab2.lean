/-
  CountDoors, TurnTable, IsHierarchical, DoorsInCommon.
-/
import Derived.Test.YtaabfkcbkcmneaaFTab
namespace Go.Proofs.Ytaabfkcbkcmneaa
open B Go.RowKit

theorem specCountDoors_any {w : World} {v : Value} {rs : List (List Int)} {k : Int} (hv : RdSS w v rs) :
    Does Try.prog 13 #[v, .int .i64 k] w (fun r w' => r = .tuple #[.int .i64 (cdV rs k), .int .i64 (tcC rs [k])] ∧ Ext w w') := by
  refine enter Try.func13 rfl 18 Try.ntmps13 rfl (by kernel_rfl) ?_
  refine CW.seq ?_
  refine CW.region ?_
  refine RL.y rfl (y_asg rfl) ?_
  refine RL.y rfl (y_asg rfl) ?_
  refine RL.nil ?_
  refine Fin.next ?_
  refine CW.seq ?_
  refine CW.region ?_
  refine RL.y rfl (y_mov (by conv => lhs; whnf)) ?_
  refine RL.y rfl (y_mov (v := .int _ _) rfl) ?_
  refine RL.call rfl (l11Code_any hv) ?_
  rintro r w1 ⟨rfl, hE⟩
  refine RL.y rfl (y_asg (v := .int _ _) rfl) ?_
  refine RL.nil ?_
  refine Fin.next ?_
  refine CW.seq ?_
  refine CW.seq ?_
  refine CW.region ?_
  refine RL.y rfl (y_mov (v := .int _ _) rfl) ?_
  refine RL.y rfl (y_ne rfl rfl) ?_
  refine RL.nil ?_
  refine Fin.next ?_
  refine CW.cond rfl rfl (fun hb => ?_) (fun hb => ?_)
  · with_reducible first | (replace hb := deNF hb) | (replace hb := of_decide_eq_true hb) | (replace hb := of_decide_eq_false hb) | (replace hb := deNT hb) | (replace hb := deNN hb) | (replace hb := bnT hb) | (replace hb := bnF hb) | skip
    refine CW.seq ?_
    refine CW.region ?_
    refine RL.y rfl (y_mov (v := .int _ _) rfl) ?_
    refine RL.y rfl (y_asg rfl) ?_
    refine RL.y rfl (y_asg (v := .int _ _) rfl) ?_
    refine RL.nil ?_
    refine Fin.next ?_
    refine CW.ret ?_
    refine Fin.thenRet ?_
    refine Fin.ret2 rfl (by conv => lhs; whnf) (by conv => lhs; whnf) ?_
    exact ⟨_, rfl, by unfold cdV; rw [if_neg hb], hE⟩
  · with_reducible first | (replace hb := deNF hb) | (replace hb := of_decide_eq_true hb) | (replace hb := of_decide_eq_false hb) | (replace hb := deNT hb) | (replace hb := deNN hb) | (replace hb := bnT hb) | (replace hb := bnF hb) | skip
    obtain ⟨cs, hc⟩ := hv
    have hxl := hc.le
    obtain ⟨ht, hk⟩ := tcC_zero.1 hb
    have hkr := hk k (by simp)
    have hkl : k.toNat < rs.length := by omega
    have hrow := ht.2 _ (List.getElem_mem hkl)
    refine CW.skip ?_
    refine Fin.next ?_
    refine CW.seq ?_
    refine CW.region ?_
    refine RL.y rfl (y_mov (by conv => lhs; whnf)) ?_
    refine RL.y rfl (y_mov (v := .int _ _) rfl) ?_
    refine RL.y rfl (y_ixi sT22 (eqw (hc.1.ext hE)) hkr.1 (by rw [hc.2.1]; omega) rfl rfl) ?_
    refine RL.y rfl (y_load sc34 (eqw (hc.1.ext hE)) (hc.at hkl) rfl) ?_
    refine RL.call rfl (l01Sum_any ((hc.row hkl).ext hE) hrow.2.2 hrow.2.1.2) ?_
    rintro r w2 ⟨rfl, rfl⟩
    refine RL.y rfl (y_asg (v := .int _ _) rfl) ?_
    refine RL.y rfl (y_asg rfl) ?_
    refine RL.nil ?_
    refine Fin.next ?_
    refine CW.ret ?_
    refine Fin.ret2 rfl (by conv => lhs; whnf) (by conv => lhs; whnf) ?_
    exact ⟨_, rfl, by unfold cdV; rw [if_pos hb, hb, getD_lt hkl], hE⟩
theorem implCountDoors_any {w : World} {v : Value} {rs : List (List Int)} {k : Int} (hv : RdSS w v rs) :
    Does Try.prog 14 #[v, .int .i64 k] w (fun r w' => r = .tuple #[.int .i64 (cdV rs k), .int .i64 (tcC rs [k])] ∧ Ext w w') := by
  refine enter Try.func14 rfl 19 Try.ntmps14 rfl (by kernel_rfl) ?_
  refine CW.seq ?_
  refine CW.region ?_
  refine RL.y rfl (y_asg rfl) ?_
  refine RL.y rfl (y_asg rfl) ?_
  refine RL.nil ?_
  refine Fin.next ?_
  refine CW.seq ?_
  refine CW.seq ?_
  refine CW.region ?_
  refine RL.y rfl (y_mov (by conv => lhs; whnf)) ?_
  refine RL.y rfl (y_mov (v := .int _ _) rfl) ?_
  refine RL.lit1 rfl sT34 rfl rfl (fun vl wl hol hE hbl => ?_)
  refine RL.call rfl (tableCode_any (ks := [k]) (hv.ext hE) hol.sv) ?_
  rintro r w1 ⟨rfl, rfl⟩
  refine RL.y rfl (y_asg (v := .int _ _) rfl) ?_
  refine RL.nil ?_
  refine Fin.next ?_
  refine CW.seq ?_
  refine CW.region ?_
  refine RL.y rfl (y_mov (v := .int _ _) rfl) ?_
  refine RL.y rfl (y_ne rfl rfl) ?_
  refine RL.nil ?_
  refine Fin.next ?_
  refine CW.cond rfl rfl (fun hb => ?_) (fun hb => ?_)
  · with_reducible first | (replace hb := deNF hb) | (replace hb := of_decide_eq_true hb) | (replace hb := of_decide_eq_false hb) | (replace hb := deNT hb) | (replace hb := deNN hb) | (replace hb := bnT hb) | (replace hb := bnF hb) | skip
    refine CW.seq ?_
    refine CW.region ?_
    refine RL.y rfl (y_mov (v := .int _ _) rfl) ?_
    refine RL.y rfl (y_asg rfl) ?_
    refine RL.y rfl (y_asg (v := .int _ _) rfl) ?_
    refine RL.nil ?_
    refine Fin.next ?_
    refine CW.ret ?_
    refine Fin.thenRet ?_
    refine Fin.ret2 rfl (by conv => lhs; whnf) (by conv => lhs; whnf) ?_
    exact ⟨_, rfl, by unfold cdV; rw [if_neg hb], hE⟩
  · with_reducible first | (replace hb := deNF hb) | (replace hb := of_decide_eq_true hb) | (replace hb := of_decide_eq_false hb) | (replace hb := deNT hb) | (replace hb := deNN hb) | (replace hb := bnT hb) | (replace hb := bnF hb) | skip
    obtain ⟨cs, hc⟩ := hv
    have hxl := hc.le
    obtain ⟨ht, hk⟩ := tcC_zero.1 hb
    have hkr := hk k (by simp)
    have hkl : k.toNat < rs.length := by omega
    have hrow := ht.2 _ (List.getElem_mem hkl)
    refine CW.skip ?_
    refine Fin.next ?_
    refine CW.seq ?_
    refine CW.region ?_
    refine RL.y rfl (y_mov (by conv => lhs; whnf)) ?_
    refine RL.y rfl (y_mov (v := .int _ _) rfl) ?_
    refine RL.y rfl (y_ixi sT22 (eqw (hc.1.ext hE)) hkr.1 (by rw [hc.2.1]; omega) rfl rfl) ?_
    refine RL.y rfl (y_load sc34 (eqw (hc.1.ext hE)) (hc.at hkl) rfl) ?_
    refine RL.call rfl (sum_any ((hc.row hkl).ext hE) hrow.2.2 hrow.2.1.2) ?_
    rintro r w2 ⟨rfl, rfl⟩
    refine RL.y rfl (y_asg (v := .int _ _) rfl) ?_
    refine RL.y rfl (y_asg rfl) ?_
    refine RL.nil ?_
    refine Fin.next ?_
    refine CW.ret ?_
    refine Fin.ret2 rfl (by conv => lhs; whnf) (by conv => lhs; whnf) ?_
    exact ⟨_, rfl, by unfold cdV; rw [if_pos hb, hb, getD_lt hkl], hE⟩

theorem specDoorsInCommon_any {w : World} {v : Value} {rs : List (List Int)} {a b : Int} (hv : RdSS w v rs) :
    Does Try.prog 21 #[v, .int .i64 a, .int .i64 b] w (fun r w' => ∃ v1, r = .tuple #[v1, .int .i64 (tcC rs [a, b])] ∧ OV w' w.heap.size 2 v1 (ints (dcV rs a b)) ∧ Ext w w') := by
  refine enter Try.func21 rfl 29 Try.ntmps21 rfl (by kernel_rfl) ?_
  refine CW.seq ?_
  refine CW.region ?_
  refine RL.y rfl (y_asg rfl) ?_
  refine RL.y rfl (y_asg rfl) ?_
  refine RL.nil ?_
  refine Fin.next ?_
  refine CW.seq ?_
  refine CW.region ?_
  refine RL.y rfl (y_mov (by conv => lhs; whnf)) ?_
  refine RL.y rfl (y_mov (v := .int _ _) rfl) ?_
  refine RL.call rfl (l11Code_any hv) ?_
  rintro r w1 ⟨rfl, hE⟩
  refine RL.y rfl (y_asg (v := .int _ _) rfl) ?_
  refine RL.nil ?_
  refine Fin.next ?_
  refine CW.cut (fun E w' => agrees E [(0, v), (1, .int .i64 a), (2, .int .i64 b), (8, .int .i64 (tcC rs [a, b]))] ∧ Ext w w') ?_ ?_
  · refine CW.seq ?_
    refine CW.region ?_
    refine RL.y rfl (y_mov (v := .int _ _) rfl) ?_
    refine RL.y rfl (y_eq rfl rfl) ?_
    refine RL.nil ?_
    refine Fin.next ?_
    refine CW.cond rfl rfl (fun hb => ?_) (fun hb => ?_)
    · with_reducible first | (replace hb := deNF hb) | (replace hb := of_decide_eq_true hb) | (replace hb := of_decide_eq_false hb) | (replace hb := deNT hb) | (replace hb := deNN hb) | (replace hb := bnT hb) | (replace hb := bnF hb) | skip
      refine CW.region ?_
      refine RL.y rfl (y_mov (by conv => lhs; whnf)) ?_
      refine RL.y rfl (y_mov (v := .int _ _) rfl) ?_
      refine RL.call rfl (l11Code_any (hv.ext hE)) ?_
      rintro r w2 ⟨rfl, hE2⟩
      refine RL.y rfl (y_asg (v := .int _ _) rfl) ?_
      refine RL.nil ?_
      refine Fin.le ?_
      exact ⟨⟨rfl, rfl, rfl, by rw [tcC_two, if_pos hb]; rfl, trivial⟩, hE.trans hE2⟩
    · with_reducible first | (replace hb := deNF hb) | (replace hb := of_decide_eq_true hb) | (replace hb := of_decide_eq_false hb) | (replace hb := deNT hb) | (replace hb := deNN hb) | (replace hb := bnT hb) | (replace hb := bnF hb) | skip
      refine CW.skip ?_
      refine Fin.le ?_
      exact ⟨⟨rfl, rfl, rfl, by rw [tcC_two, if_neg hb]; rfl, trivial⟩, hE⟩
  · rintro E w2 ⟨hag, hE2⟩
    refine CW.re _ hag rfl ?_
    refine CW.seq ?_
    refine CW.seq ?_
    refine CW.region ?_
    refine RL.y rfl (y_mov (v := .int _ _) rfl) ?_
    refine RL.y rfl (y_ne rfl rfl) ?_
    refine RL.nil ?_
    refine Fin.next ?_
    refine CW.cond rfl rfl (fun hb => ?_) (fun hb => ?_)
    · with_reducible first | (replace hb := deNF hb) | (replace hb := of_decide_eq_true hb) | (replace hb := of_decide_eq_false hb) | (replace hb := deNT hb) | (replace hb := deNN hb) | (replace hb := bnT hb) | (replace hb := bnF hb) | skip
      refine CW.seq ?_
      refine CW.region ?_
      refine RL.y rfl (y_mov (v := .int _ _) rfl) ?_
      refine RL.y rfl (y_asg rfl) ?_
      refine RL.y rfl (y_asg (v := .int _ _) rfl) ?_
      refine RL.nil ?_
      refine Fin.next ?_
      refine CW.ret ?_
      refine Fin.thenRet ?_
      refine Fin.ret2 rfl (by conv => lhs; whnf) (by conv => lhs; whnf) ?_
      exact ⟨_, rfl, _, rfl, by unfold dcV; rw [if_neg hb]; exact OV.nil _ _ _, hE2⟩
    · with_reducible first | (replace hb := deNF hb) | (replace hb := of_decide_eq_true hb) | (replace hb := of_decide_eq_false hb) | (replace hb := deNT hb) | (replace hb := deNN hb) | (replace hb := bnT hb) | (replace hb := bnF hb) | skip
      obtain ⟨cs, hc⟩ := hv
      have hxl := hc.le
      obtain ⟨ht, hk⟩ := tcC_zero.1 hb
      have hka := hk a (by simp)
      have hkb := hk b (by simp)
      have hla : a.toNat < rs.length := by omega
      have hlb : b.toNat < rs.length := by omega
      have hra := ht.2 _ (List.getElem_mem hla)
      have hrb := ht.2 _ (List.getElem_mem hlb)
      refine CW.skip ?_
      refine Fin.next ?_
      refine CW.seq ?_
      refine CW.tape (Ext _) [10, 9, 8] mixed (by kernel_rfl) (by kernel_rfl) (Ext.drew _) ?_
      refine TL.y rfl rfl (y_mov (by conv => lhs; whnf)) ?_
      refine TL.y rfl rfl (y_mov (v := .int _ _) rfl) ?_
      refine TL.y rfl rfl (y_ixi sT22 (fun _ hC => (hc.1.ext hE2).ext hC) hka.1 (by rw [hc.2.1]; omega) rfl rfl) ?_
      refine TL.y rfl rfl (y_load sc34 (fun _ hC => (hc.1.ext hE2).ext hC) (hc.at hla) rfl) ?_
      refine TL.y rfl rfl (y_mov (by conv => lhs; whnf)) ?_
      refine TL.y rfl rfl (y_mov (v := .int _ _) rfl) ?_
      refine TL.y rfl rfl (y_ixi sT22 (fun _ hC => (hc.1.ext hE2).ext hC) hkb.1 (by rw [hc.2.1]; omega) rfl rfl) ?_
      refine TL.y rfl rfl (y_load sc34 (fun _ hC => (hc.1.ext hE2).ext hC) (hc.at hlb) rfl) ?_
      refine TL.op rfl (fun hC => ?_)
      refine RL.call rfl (l11Common_any (((hc.row hla).ext hE2).ext hC) (((hc.row hlb).ext hE2).ext hC) (hra.1.trans hrb.1.symm) hra.2.1.2) ?_
      rintro vo w3 ⟨ho, hE3⟩
      refine RL.nil ?_
      refine Fin.tl (by first | exact hC | (refine Ext.trans hC ?_; assumption)) ?_
      refine TL.yc rfl rfl (y_asg (by conv => lhs; whnf)) ?_
      refine TL.yc rfl rfl (y_asg rfl) ?_
      refine TL.nil (fun hC => ?_)
      refine Fin.next ?_
      refine CW.ret ?_
      refine Fin.ret2 rfl (by conv => lhs; whnf) (by conv => lhs; whnf) ?_
      exact ⟨_, rfl, _, by rw [hb], by unfold dcV; rw [if_pos hb, getD_lt hla, getD_lt hlb]; exact ho.mono hE2.size, hE2.trans hC⟩
theorem implDoorsInCommon_any {w : World} {v : Value} {rs : List (List Int)} {a b : Int} (hv : RdSS w v rs) :
    Does Try.prog 22 #[v, .int .i64 a, .int .i64 b] w (fun r w' => ∃ v1, r = .tuple #[v1, .int .i64 (tcC rs [a, b])] ∧ OV w' w.heap.size 2 v1 (ints (dcV rs a b)) ∧ Ext w w') := by
  refine enter Try.func22 rfl 26 Try.ntmps22 rfl (by kernel_rfl) ?_
  refine CW.seq ?_
  refine CW.region ?_
  refine RL.y rfl (y_asg rfl) ?_
  refine RL.y rfl (y_asg rfl) ?_
  refine RL.nil ?_
  refine Fin.next ?_
  refine CW.seq ?_
  refine CW.seq ?_
  refine CW.region ?_
  refine RL.y rfl (y_mov (by conv => lhs; whnf)) ?_
  refine RL.y rfl (y_mov (v := .int _ _) rfl) ?_
  refine RL.y rfl (y_mov (v := .int _ _) rfl) ?_
  refine RL.lit2 rfl sT34 rfl rfl rfl rfl (fun vl wl hol hE2 hbl => ?_)
  refine RL.call rfl (tableCode_any (ks := [a, b]) (hv.ext hE2) hol.sv) ?_
  rintro r w1 ⟨rfl, rfl⟩
  refine RL.y rfl (y_asg (v := .int _ _) rfl) ?_
  refine RL.nil ?_
  refine Fin.next ?_
  refine CW.seq ?_
  refine CW.region ?_
  refine RL.y rfl (y_mov (v := .int _ _) rfl) ?_
  refine RL.y rfl (y_ne rfl rfl) ?_
  refine RL.nil ?_
  refine Fin.next ?_
  refine CW.cond rfl rfl (fun hb => ?_) (fun hb => ?_)
  · with_reducible first | (replace hb := deNF hb) | (replace hb := of_decide_eq_true hb) | (replace hb := of_decide_eq_false hb) | (replace hb := deNT hb) | (replace hb := deNN hb) | (replace hb := bnT hb) | (replace hb := bnF hb) | skip
    refine CW.seq ?_
    refine CW.region ?_
    refine RL.y rfl (y_mov (v := .int _ _) rfl) ?_
    refine RL.y rfl (y_asg rfl) ?_
    refine RL.y rfl (y_asg (v := .int _ _) rfl) ?_
    refine RL.nil ?_
    refine Fin.next ?_
    refine CW.ret ?_
    refine Fin.thenRet ?_
    refine Fin.ret2 rfl (by conv => lhs; whnf) (by conv => lhs; whnf) ?_
    exact ⟨_, rfl, _, rfl, by unfold dcV; rw [if_neg hb]; exact OV.nil _ _ _, hE2⟩
  · with_reducible first | (replace hb := deNF hb) | (replace hb := of_decide_eq_true hb) | (replace hb := of_decide_eq_false hb) | (replace hb := deNT hb) | (replace hb := deNN hb) | (replace hb := bnT hb) | (replace hb := bnF hb) | skip
    obtain ⟨cs, hc⟩ := hv
    have hxl := hc.le
    obtain ⟨ht, hk⟩ := tcC_zero.1 hb
    have hka := hk a (by simp)
    have hkb := hk b (by simp)
    have hla : a.toNat < rs.length := by omega
    have hlb : b.toNat < rs.length := by omega
    have hra := ht.2 _ (List.getElem_mem hla)
    have hrb := ht.2 _ (List.getElem_mem hlb)
    refine CW.skip ?_
    refine Fin.next ?_
    refine CW.seq ?_
    refine CW.tape (Ext _) [10, 9, 8] mixed (by kernel_rfl) (by kernel_rfl) (Ext.drew _) ?_
    refine TL.y rfl rfl (y_mov (by conv => lhs; whnf)) ?_
    refine TL.y rfl rfl (y_mov (v := .int _ _) rfl) ?_
    refine TL.y rfl rfl (y_ixi sT22 (fun _ hC => (hc.1.ext hE2).ext hC) hka.1 (by rw [hc.2.1]; omega) rfl rfl) ?_
    refine TL.y rfl rfl (y_load sc34 (fun _ hC => (hc.1.ext hE2).ext hC) (hc.at hla) rfl) ?_
    refine TL.y rfl rfl (y_mov (by conv => lhs; whnf)) ?_
    refine TL.y rfl rfl (y_mov (v := .int _ _) rfl) ?_
    refine TL.y rfl rfl (y_ixi sT22 (fun _ hC => (hc.1.ext hE2).ext hC) hkb.1 (by rw [hc.2.1]; omega) rfl rfl) ?_
    refine TL.y rfl rfl (y_load sc34 (fun _ hC => (hc.1.ext hE2).ext hC) (hc.at hlb) rfl) ?_
    refine TL.op rfl (fun hC => ?_)
    refine RL.call rfl (inCommon_any (((hc.row hla).ext hE2).ext hC) (((hc.row hlb).ext hE2).ext hC) (hra.1.trans hrb.1.symm) hra.2.1.2) ?_
    rintro vo w3 ⟨ho, hE3⟩
    refine RL.nil ?_
    refine Fin.tl (by first | exact hC | (refine Ext.trans hC ?_; assumption)) ?_
    refine TL.yc rfl rfl (y_asg (by conv => lhs; whnf)) ?_
    refine TL.yc rfl rfl (y_asg rfl) ?_
    refine TL.nil (fun hC => ?_)
    refine Fin.next ?_
    refine CW.ret ?_
    refine Fin.ret2 rfl (by conv => lhs; whnf) (by conv => lhs; whnf) ?_
    exact ⟨_, rfl, _, by rw [hb], by unfold dcV; rw [if_pos hb, getD_lt hla, getD_lt hlb]; exact ho.mono hE2.size, hE2.trans hC⟩

theorem specIsHierarchical_any {w : World} {v : Value} {rs : List (List Int)} (hv : RdSS w v rs) :
    Does Try.prog 19 #[v] w (fun r w' => r = .tuple #[.bool (decide (tbl rs ∧ hier rs)), .int .i64 (ttC rs)] ∧ Ext w w') := by
  refine enter Try.func19 rfl 55 Try.ntmps19 rfl (by kernel_rfl) ?_
  refine CW.seq ?_
  refine CW.region ?_
  refine RL.y rfl (y_asg rfl) ?_
  refine RL.y rfl (y_asg rfl) ?_
  refine RL.nil ?_
  refine Fin.next ?_
  refine CW.seq ?_
  refine CW.seq ?_
  refine CW.region ?_
  refine RL.y rfl (y_mov (by conv => lhs; whnf)) ?_
  refine RL.call rfl (specIsTable_any hv) ?_
  rintro r w1 ⟨rfl, hE⟩
  obtain ⟨cs, hc⟩ := hv
  have hxl := hc.le
  refine RL.y rfl (y_not rfl) ?_
  refine RL.nil ?_
  refine Fin.next ?_
  refine CW.cond rfl rfl (fun hb => ?_) (fun hb => ?_)
  · with_reducible first | (replace hb := deNF hb) | (replace hb := of_decide_eq_true hb) | (replace hb := of_decide_eq_false hb) | (replace hb := deNT hb) | (replace hb := deNN hb) | (replace hb := bnT hb) | (replace hb := bnF hb) | skip
    refine CW.seq ?_
    refine CW.region ?_
    refine RL.y rfl (y_asg rfl) ?_
    refine RL.y rfl (y_asg rfl) ?_
    refine RL.nil ?_
    refine Fin.next ?_
    refine CW.ret ?_
    refine Fin.thenRet ?_
    refine Fin.ret2 rfl (by conv => lhs; whnf) (by conv => lhs; whnf) ?_
    exact ⟨_, rfl, by simp [ttC, hb], hE⟩
  · with_reducible first | (replace hb := deNF hb) | (replace hb := of_decide_eq_true hb) | (replace hb := of_decide_eq_false hb) | (replace hb := deNT hb) | (replace hb := deNN hb) | (replace hb := bnT hb) | (replace hb := bnF hb) | skip
    refine CW.skip ?_
    refine Fin.next ?_
    refine CW.seq ?_
    refine CW.seq ?_
    refine CW.region ?_
    refine RL.y rfl (y_asg rfl) ?_
    refine RL.nil ?_
    refine Fin.next ?_
    refine CW.block ?_
    refine CW.loop (fun m E w' => ∃ i : Nat, m = rs.length - i ∧ i ≤ rs.length ∧ agrees E [(0, v), (4, .int .i64 (i : Int))] ∧ (∀ i', i' < i → ∀ k, k < i' → ¬ bad (rs.getD i' []) (rs.getD k [])) ∧ Ext w w') _ ⟨0, rfl, Nat.zero_le _, ⟨rfl, rfl, trivial⟩, (fun i' h => absurd h (Nat.not_lt_zero i')), hE⟩ ?_
    · rintro m E w2 ⟨i, rfl, hki, hagi, hall, hE2⟩
      refine CW.re _ hagi rfl ?_
      clear hagi
      refine CW.seq ?_
      refine CW.seq ?_
      refine CW.region ?_
      refine RL.y rfl (y_mov (v := .int _ _) rfl) ?_
      refine RL.y rfl (y_mov (by conv => lhs; whnf)) ?_
      refine RL.y rfl (y_len sT22 hc.1 hc.2.1 rfl) ?_
      refine RL.y rfl (y_lt rfl rfl) ?_
      refine RL.nil ?_
      refine Fin.next ?_
      refine CW.cond rfl rfl (fun hci => ?_) (fun hci => ?_)
      · with_reducible first | (replace hci := deNF hci) | (replace hci := of_decide_eq_true hci) | (replace hci := of_decide_eq_false hci) | (replace hci := deNT hci) | (replace hci := deNN hci) | (replace hci := bnT hci) | (replace hci := bnF hci) | skip
        have hlti : i < rs.length := by omega
        refine CW.skip ?_
        refine Fin.next ?_
        refine CW.seq ?_
        refine CW.block ?_
        refine CW.seq ?_
        refine CW.region ?_
        refine RL.y rfl (y_asg rfl) ?_
        refine RL.nil ?_
        refine Fin.next ?_
        refine CW.block ?_
        refine CW.loop (fun m E w' => ∃ k : Nat, m = i - k ∧ k ≤ i ∧ agrees E [(0, v), (4, .int .i64 (i : Int)), (5, .int .i64 (k : Int))] ∧ (∀ k', k' < k → ¬ bad (rs.getD i []) (rs.getD k' [])) ∧ Ext w w') _ ⟨0, rfl, Nat.zero_le _, ⟨rfl, rfl, rfl, trivial⟩, (fun k' h => absurd h (Nat.not_lt_zero k')), hE2⟩ ?_
        · rintro m E w3 ⟨k, rfl, hkk, hagk, hin, hE3⟩
          refine CW.re _ hagk rfl ?_
          clear hagk
          refine CW.seq ?_
          refine CW.seq ?_
          refine CW.region ?_
          refine RL.y rfl (y_mov (v := .int _ _) rfl) ?_
          refine RL.y rfl (y_mov (v := .int _ _) rfl) ?_
          refine RL.y rfl (y_lt rfl rfl) ?_
          refine RL.nil ?_
          refine Fin.next ?_
          refine CW.cond rfl rfl (fun hck => ?_) (fun hck => ?_)
          · with_reducible first | (replace hck := deNF hck) | (replace hck := of_decide_eq_true hck) | (replace hck := of_decide_eq_false hck) | (replace hck := deNT hck) | (replace hck := deNN hck) | (replace hck := bnT hck) | (replace hck := bnF hck) | skip
            have hltk : k < i := by omega
            have hkl : k < rs.length := by omega
            have hri := hb.2 _ (List.getElem_mem hlti)
            have hrk := hb.2 _ (List.getElem_mem hkl)
            have hno : bad rs[i] rs[k] → ¬ hier rs := fun h h2 => h2 i hlti k hkl (by rw [getD_lt hlti, getD_lt hkl]; exact h)
            have hgo : ¬ bad rs[i] rs[k] → ∀ k', k' < k + 1 → ¬ bad (rs.getD i []) (rs.getD k' []) := fun h => all_succ hin (by rw [getD_lt hlti, getD_lt hkl]; exact h)
            refine CW.skip ?_
            refine Fin.next ?_
            refine CW.seq ?_
            refine CW.block ?_
            refine CW.seq ?_
            refine CW.tape (Ext _) [34, 33, 32, 31, 22, 19, 10, 8] mixed (by kernel_rfl) (by kernel_rfl) (Ext.drew _) ?_
            refine TL.y rfl rfl (y_mov (by conv => lhs; whnf)) ?_
            refine TL.y rfl rfl (y_mov (v := .int _ _) rfl) ?_
            refine TL.y rfl rfl (y_ixa sT22 (fun _ hC => (hc.1.ext hE3).ext hC) (k := i) (hc.lt hlti) rfl rfl) ?_
            refine TL.y rfl rfl (y_load sc34 (fun _ hC => (hc.1.ext hE3).ext hC) (hc.at hlti) rfl) ?_
            refine TL.y rfl rfl (y_mov (by conv => lhs; whnf)) ?_
            refine TL.y rfl rfl (y_mov (v := .int _ _) rfl) ?_
            refine TL.y rfl rfl (y_ixa sT22 (fun _ hC => (hc.1.ext hE3).ext hC) (k := k) (hc.lt hkl) rfl rfl) ?_
            refine TL.y rfl rfl (y_load sc34 (fun _ hC => (hc.1.ext hE3).ext hC) (hc.at hkl) rfl) ?_
            refine TL.op rfl (fun hC => ?_)
            refine RL.call rfl (l11In_any (((hc.row hlti).ext hE3).ext hC) (((hc.row hkl).ext hE3).ext hC) (hri.1.trans hrk.1.symm)) ?_
            rintro r w4 ⟨rfl, hE4⟩
            refine RL.nil ?_
            refine Fin.tl (by first | exact hC | (refine Ext.trans hC ?_; assumption)) ?_
            refine TL.y rfl rfl (y_not rfl) ?_
            refine TL.yc rfl rfl (y_mov (v := .bool _) rfl) ?_
            refine TL.split (t := 30) rfl rfl (fun h1 => ?_) (fun h1 => ?_)
            · with_reducible first | (replace h1 := deNF h1) | (replace h1 := of_decide_eq_true h1) | (replace h1 := of_decide_eq_false h1) | (replace h1 := deNT h1) | (replace h1 := deNN h1) | (replace h1 := bnT h1) | (replace h1 := bnF h1) | skip
              refine TL.take (t := 30) rfl rfl rfl ?_
              refine TL.y rfl rfl (y_mov (by conv => lhs; whnf)) ?_
              refine TL.take (t := 30) rfl rfl rfl ?_
              refine TL.y rfl rfl (y_mov (v := .int _ _) rfl) ?_
              refine TL.take (t := 30) rfl rfl rfl ?_
              refine TL.y rfl rfl (y_ixa sT22 (fun _ hC => (hc.1.ext hE3).ext hC) (k := k) (hc.lt hkl) rfl rfl) ?_
              refine TL.take (t := 30) rfl rfl rfl ?_
              refine TL.y rfl rfl (y_load sc34 (fun _ hC => (hc.1.ext hE3).ext hC) (hc.at hkl) rfl) ?_
              refine TL.take (t := 30) rfl rfl rfl ?_
              refine TL.y rfl rfl (y_mov (by conv => lhs; whnf)) ?_
              refine TL.take (t := 30) rfl rfl rfl ?_
              refine TL.y rfl rfl (y_mov (v := .int _ _) rfl) ?_
              refine TL.take (t := 30) rfl rfl rfl ?_
              refine TL.y rfl rfl (y_ixa sT22 (fun _ hC => (hc.1.ext hE3).ext hC) (k := i) (hc.lt hlti) rfl rfl) ?_
              refine TL.take (t := 30) rfl rfl rfl ?_
              refine TL.y rfl rfl (y_load sc34 (fun _ hC => (hc.1.ext hE3).ext hC) (hc.at hlti) rfl) ?_
              refine TL.take (t := 30) rfl rfl rfl ?_
              refine TL.op rfl (fun hC => ?_)
              refine RL.call rfl (l11In_any (((hc.row hkl).ext hE3).ext hC) (((hc.row hlti).ext hE3).ext hC) (hrk.1.trans hri.1.symm)) ?_
              rintro r w5 ⟨rfl, hE5⟩
              refine RL.nil ?_
              refine Fin.tl (by first | exact hC | (refine Ext.trans hC ?_; assumption)) ?_
              refine TL.take (t := 30) rfl rfl rfl ?_
              refine TL.y rfl rfl (y_not rfl) ?_
              refine TL.y rfl rfl (y_pickT (v := .bool _) rfl rfl) ?_
              refine TL.yc rfl rfl (y_mov (v := .bool _) rfl) ?_
              refine TL.split (t := 42) rfl rfl (fun h2 => ?_) (fun h2 => ?_)
              · with_reducible first | (replace h2 := deNF h2) | (replace h2 := of_decide_eq_true h2) | (replace h2 := of_decide_eq_false h2) | (replace h2 := deNT h2) | (replace h2 := deNN h2) | (replace h2 := bnT h2) | (replace h2 := bnF h2) | skip
                refine TL.take (t := 42) rfl rfl rfl ?_
                refine TL.y rfl rfl (y_mov (by conv => lhs; whnf)) ?_
                refine TL.take (t := 42) rfl rfl rfl ?_
                refine TL.y rfl rfl (y_mov (v := .int _ _) rfl) ?_
                refine TL.take (t := 42) rfl rfl rfl ?_
                refine TL.y rfl rfl (y_ixa sT22 (fun _ hC => (hc.1.ext hE3).ext hC) (k := i) (hc.lt hlti) rfl rfl) ?_
                refine TL.take (t := 42) rfl rfl rfl ?_
                refine TL.y rfl rfl (y_load sc34 (fun _ hC => (hc.1.ext hE3).ext hC) (hc.at hlti) rfl) ?_
                refine TL.take (t := 42) rfl rfl rfl ?_
                refine TL.y rfl rfl (y_mov (by conv => lhs; whnf)) ?_
                refine TL.take (t := 42) rfl rfl rfl ?_
                refine TL.y rfl rfl (y_mov (v := .int _ _) rfl) ?_
                refine TL.take (t := 42) rfl rfl rfl ?_
                refine TL.y rfl rfl (y_ixa sT22 (fun _ hC => (hc.1.ext hE3).ext hC) (k := k) (hc.lt hkl) rfl rfl) ?_
                refine TL.take (t := 42) rfl rfl rfl ?_
                refine TL.y rfl rfl (y_load sc34 (fun _ hC => (hc.1.ext hE3).ext hC) (hc.at hkl) rfl) ?_
                refine TL.take (t := 42) rfl rfl rfl ?_
                refine TL.op rfl (fun hC => ?_)
                refine RL.call rfl (l11Common_any (((hc.row hlti).ext hE3).ext hC) (((hc.row hkl).ext hE3).ext hC) (hri.1.trans hrk.1.symm) hri.2.1.2) ?_
                rintro vo w6 ⟨ho, hE6⟩
                refine RL.nil ?_
                refine Fin.tl (by first | exact hC | (refine Ext.trans hC ?_; assumption)) ?_
                refine TL.take (t := 42) rfl rfl rfl ?_
                refine TL.yc rfl rfl (y_len sT34 ho.sv (ints_len _) rfl) ?_
                refine TL.take (t := 42) rfl rfl rfl ?_
                refine TL.yc rfl rfl (y_gt rfl rfl) ?_
                refine TL.yc rfl rfl (y_pickT (v := .bool _) rfl rfl) ?_
                refine TL.nil (fun hC => ?_)
                refine Fin.next ?_
                refine CW.cond rfl rfl (fun h3 => ?_) (fun h3 => ?_)
                · with_reducible first | (replace h3 := deNF h3) | (replace h3 := of_decide_eq_true h3) | (replace h3 := of_decide_eq_false h3) | (replace h3 := deNT h3) | (replace h3 := deNN h3) | (replace h3 := bnT h3) | (replace h3 := bnF h3) | skip
                  refine CW.seq ?_
                  refine CW.region ?_
                  refine RL.y rfl (y_asg rfl) ?_
                  refine RL.y rfl (y_asg rfl) ?_
                  refine RL.nil ?_
                  refine Fin.next ?_
                  refine CW.ret ?_
                  refine Fin.blockRet ?_
                  refine Fin.thenRet ?_
                  refine Fin.thenRet ?_
                  refine Fin.blockRet ?_
                  refine Fin.blockRet ?_
                  refine Fin.thenRet ?_
                  refine Fin.thenRet ?_
                  refine Fin.blockRet ?_
                  refine Fin.thenRet ?_
                  refine Fin.ret2 rfl (by conv => lhs; whnf) (by conv => lhs; whnf) ?_
                  exact ⟨_, rfl, by rw [decide_eq_false (fun h => hno ⟨⟨h1, h2⟩, by omega⟩ h.2), ttC, if_pos hb], hE3.trans hC⟩
                · with_reducible first | (replace h3 := deNF h3) | (replace h3 := of_decide_eq_true h3) | (replace h3 := of_decide_eq_false h3) | (replace h3 := deNT h3) | (replace h3 := deNN h3) | (replace h3 := bnT h3) | (replace h3 := bnF h3) | skip
                  refine CW.skip ?_
                  refine Fin.blockNormal ?_
                  refine Fin.next ?_
                  refine CW.region ?_
                  refine RL.y rfl (y_mov (v := .int _ _) rfl) ?_
                  refine RL.y rfl (y_add rfl rfl (IntWalk.i64_in _ (by omega))) ?_
                  refine RL.y rfl (y_asg (v := .int _ _) rfl) ?_
                  refine RL.nil ?_
                  refine Fin.le ?_
                  exact ⟨i - (k + 1), by omega, k + 1, rfl, hltk, ⟨rfl, rfl, rfl, trivial⟩, hgo (fun h => h3 (by have := h.2; omega)), hE3.trans hC⟩
              · with_reducible first | (replace h2 := deNF h2) | (replace h2 := of_decide_eq_true h2) | (replace h2 := of_decide_eq_false h2) | (replace h2 := deNT h2) | (replace h2 := deNN h2) | (replace h2 := bnT h2) | (replace h2 := bnF h2) | skip
                refine TL.pass (t := 42) rfl rfl rfl rfl ?_
                refine TL.pass (t := 42) rfl rfl rfl rfl ?_
                refine TL.pass (t := 42) rfl rfl rfl rfl ?_
                refine TL.pass (t := 42) rfl rfl rfl rfl ?_
                refine TL.pass (t := 42) rfl rfl rfl rfl ?_
                refine TL.pass (t := 42) rfl rfl rfl rfl ?_
                refine TL.pass (t := 42) rfl rfl rfl rfl ?_
                refine TL.pass (t := 42) rfl rfl rfl rfl ?_
                refine TL.pass (t := 42) rfl rfl rfl rfl ?_
                refine TL.pass (t := 42) rfl rfl rfl rfl ?_
                refine TL.pass (t := 42) rfl rfl rfl rfl ?_
                refine TL.yc rfl rfl (y_pickF (v := .bool _) rfl rfl) ?_
                refine TL.nil (fun hC => ?_)
                refine Fin.next ?_
                refine CW.condF rfl rfl ?_
                refine CW.skip ?_
                refine Fin.blockNormal ?_
                refine Fin.next ?_
                refine CW.region ?_
                refine RL.y rfl (y_mov (v := .int _ _) rfl) ?_
                refine RL.y rfl (y_add rfl rfl (IntWalk.i64_in _ (by omega))) ?_
                refine RL.y rfl (y_asg (v := .int _ _) rfl) ?_
                refine RL.nil ?_
                refine Fin.le ?_
                exact ⟨i - (k + 1), by omega, k + 1, rfl, hltk, ⟨rfl, rfl, rfl, trivial⟩, hgo (fun h => h.1.2 h2), hE3.trans hC⟩
            · with_reducible first | (replace h1 := deNF h1) | (replace h1 := of_decide_eq_true h1) | (replace h1 := of_decide_eq_false h1) | (replace h1 := deNT h1) | (replace h1 := deNN h1) | (replace h1 := bnT h1) | (replace h1 := bnF h1) | skip
              refine TL.pass (t := 30) rfl rfl rfl rfl ?_
              refine TL.pass (t := 30) rfl rfl rfl rfl ?_
              refine TL.pass (t := 30) rfl rfl rfl rfl ?_
              refine TL.pass (t := 30) rfl rfl rfl rfl ?_
              refine TL.pass (t := 30) rfl rfl rfl rfl ?_
              refine TL.pass (t := 30) rfl rfl rfl rfl ?_
              refine TL.pass (t := 30) rfl rfl rfl rfl ?_
              refine TL.pass (t := 30) rfl rfl rfl rfl ?_
              refine TL.pass (t := 30) rfl rfl rfl rfl ?_
              refine TL.pass (t := 30) rfl rfl rfl rfl ?_
              refine TL.y rfl rfl (y_pickF (v := .bool _) rfl rfl) ?_
              refine TL.yc rfl rfl (y_mov (v := .bool _) rfl) ?_
              refine TL.pass (t := 42) rfl rfl rfl rfl ?_
              refine TL.pass (t := 42) rfl rfl rfl rfl ?_
              refine TL.pass (t := 42) rfl rfl rfl rfl ?_
              refine TL.pass (t := 42) rfl rfl rfl rfl ?_
              refine TL.pass (t := 42) rfl rfl rfl rfl ?_
              refine TL.pass (t := 42) rfl rfl rfl rfl ?_
              refine TL.pass (t := 42) rfl rfl rfl rfl ?_
              refine TL.pass (t := 42) rfl rfl rfl rfl ?_
              refine TL.pass (t := 42) rfl rfl rfl rfl ?_
              refine TL.pass (t := 42) rfl rfl rfl rfl ?_
              refine TL.pass (t := 42) rfl rfl rfl rfl ?_
              refine TL.yc rfl rfl (y_pickF (v := .bool _) rfl rfl) ?_
              refine TL.nil (fun hC => ?_)
              refine Fin.next ?_
              refine CW.condF rfl rfl ?_
              refine CW.skip ?_
              refine Fin.blockNormal ?_
              refine Fin.next ?_
              refine CW.region ?_
              refine RL.y rfl (y_mov (v := .int _ _) rfl) ?_
              refine RL.y rfl (y_add rfl rfl (IntWalk.i64_in _ (by omega))) ?_
              refine RL.y rfl (y_asg (v := .int _ _) rfl) ?_
              refine RL.nil ?_
              refine Fin.le ?_
              exact ⟨i - (k + 1), by omega, k + 1, rfl, hltk, ⟨rfl, rfl, rfl, trivial⟩, hgo (fun h => h.1.1 h1), hE3.trans hC⟩
          · with_reducible first | (replace hck := deNF hck) | (replace hck := of_decide_eq_true hck) | (replace hck := of_decide_eq_false hck) | (replace hck := deNT hck) | (replace hck := deNN hck) | (replace hck := bnT hck) | (replace hck := bnF hck) | skip
            obtain rfl : i = k := by omega
            refine CW.exit ?_
            refine Fin.thenExit ?_
            refine Fin.thenExit ?_
            refine Fin.blockHit ?_
            refine Fin.blockNormal ?_
            refine Fin.next ?_
            refine CW.region ?_
            refine RL.y rfl (y_mov (v := .int _ _) rfl) ?_
            refine RL.y rfl (y_add rfl rfl (IntWalk.i64_in _ (by omega))) ?_
            refine RL.y rfl (y_asg (v := .int _ _) rfl) ?_
            refine RL.nil ?_
            refine Fin.le ?_
            exact ⟨rs.length - (i + 1), by omega, i + 1, rfl, hlti, ⟨rfl, rfl, trivial⟩, all_succ hall hin, hE3⟩
      · with_reducible first | (replace hci := deNF hci) | (replace hci := of_decide_eq_true hci) | (replace hci := of_decide_eq_false hci) | (replace hci := deNT hci) | (replace hci := deNN hci) | (replace hci := bnT hci) | (replace hci := bnF hci) | skip
        obtain rfl : rs.length = i := by omega
        refine CW.exit ?_
        refine Fin.thenExit ?_
        refine Fin.thenExit ?_
        refine Fin.blockHit ?_
        refine Fin.next ?_
        refine CW.seq ?_
        refine CW.region ?_
        refine RL.y rfl (y_asg rfl) ?_
        refine RL.y rfl (y_asg rfl) ?_
        refine RL.nil ?_
        refine Fin.next ?_
        refine CW.ret ?_
        refine Fin.ret2 rfl (by conv => lhs; whnf) (by conv => lhs; whnf) ?_
        exact ⟨_, rfl, by rw [decide_eq_true ⟨hb, hier_of hb hall⟩, ttC, if_pos hb], hE2⟩
theorem implIsHierarchical_any {w : World} {v : Value} {rs : List (List Int)} (hv : RdSS w v rs) :
    Does Try.prog 20 #[v] w (fun r w' => r = .tuple #[.bool (decide (tbl rs ∧ hier rs)), .int .i64 (ttC rs)] ∧ Ext w w') := by
  refine enter Try.func20 rfl 45 Try.ntmps20 rfl (by kernel_rfl) ?_
  refine CW.seq ?_
  refine CW.region ?_
  refine RL.y rfl (y_asg rfl) ?_
  refine RL.y rfl (y_asg rfl) ?_
  refine RL.nil ?_
  refine Fin.next ?_
  refine CW.seq ?_
  refine CW.seq ?_
  refine CW.region ?_
  refine RL.y rfl (y_mov (by conv => lhs; whnf)) ?_
  refine RL.call rfl (tableCode_any (ks := []) hv (SV.nil _)) ?_
  rintro r w1 ⟨rfl, rfl⟩
  obtain ⟨cs, hc⟩ := hv
  have hxl := hc.le
  rw [ttC_eq]
  refine RL.y rfl (y_asg (v := .int _ _) rfl) ?_
  refine RL.nil ?_
  refine Fin.next ?_
  refine CW.seq ?_
  refine CW.region ?_
  refine RL.y rfl (y_mov (v := .int _ _) rfl) ?_
  refine RL.y rfl (y_ne rfl rfl) ?_
  refine RL.nil ?_
  refine Fin.next ?_
  refine CW.cond rfl rfl (fun hb0 => ?_) (fun hb0 => ?_)
  · with_reducible first | (replace hb0 := deNF hb0) | (replace hb0 := of_decide_eq_true hb0) | (replace hb0 := of_decide_eq_false hb0) | (replace hb0 := deNT hb0) | (replace hb0 := deNN hb0) | (replace hb0 := bnT hb0) | (replace hb0 := bnF hb0) | skip
    have hb : ¬ tbl rs := fun h => hb0 (if_pos h)
    refine CW.seq ?_
    refine CW.region ?_
    refine RL.y rfl (y_mov (v := .int _ _) rfl) ?_
    refine RL.y rfl (y_asg rfl) ?_
    refine RL.y rfl (y_asg (v := .int _ _) rfl) ?_
    refine RL.nil ?_
    refine Fin.next ?_
    refine CW.ret ?_
    refine Fin.thenRet ?_
    refine Fin.ret2 rfl (by conv => lhs; whnf) (by conv => lhs; whnf) ?_
    exact ⟨_, rfl, by simp [hb], Ext.refl _⟩
  · with_reducible first | (replace hb0 := deNF hb0) | (replace hb0 := of_decide_eq_true hb0) | (replace hb0 := of_decide_eq_false hb0) | (replace hb0 := deNT hb0) | (replace hb0 := deNN hb0) | (replace hb0 := bnT hb0) | (replace hb0 := bnF hb0) | skip
    have hb : tbl rs := Classical.byContradiction fun h => by unfold ttC at hb0; rw [if_neg h] at hb0; omega
    refine CW.skip ?_
    refine Fin.next ?_
    refine CW.seq ?_
    refine CW.seq ?_
    refine CW.region ?_
    refine RL.y rfl (y_mov (by conv => lhs; whnf)) ?_
    refine RL.y rfl (y_len sT22 hc.1 hc.2.1 rfl) ?_
    refine RL.y rfl (y_mov rfl) ?_
    refine RL.nil ?_
    refine Fin.next ?_
    refine CW.block ?_
    refine CW.loop (fun m E w' => ∃ i : Nat, m = rs.length - i ∧ i ≤ rs.length ∧ agrees E [(0, v), (14, v), (15, .int .i64 rs.length), (16, .int .i64 (i : Int))] ∧ (∀ i', i' < i → ∀ k, k < rs.length → ¬ bad (rs.getD i' []) (rs.getD k [])) ∧ Ext w w') _ ⟨0, rfl, Nat.zero_le _, ⟨rfl, rfl, rfl, rfl, trivial⟩, (fun i' h => absurd h (Nat.not_lt_zero i')), Ext.refl w⟩ ?_
    · rintro m E w2 ⟨i, rfl, hki, hagi, hall, hE2⟩
      refine CW.re _ hagi rfl ?_
      clear hagi
      refine CW.seq ?_
      refine CW.region ?_
      refine RL.y rfl (y_lt rfl rfl) ?_
      refine RL.nil ?_
      refine Fin.next ?_
      refine CW.seq ?_
      refine CW.cond rfl rfl (fun hci => ?_) (fun hci => ?_)
      · with_reducible first | (replace hci := deNF hci) | (replace hci := of_decide_eq_true hci) | (replace hci := of_decide_eq_false hci) | (replace hci := deNT hci) | (replace hci := deNN hci) | (replace hci := bnT hci) | (replace hci := bnF hci) | skip
        have hlti : i < rs.length := by omega
        refine CW.skip ?_
        refine Fin.next ?_
        refine CW.seq ?_
        refine CW.block ?_
        refine CW.seq ?_
        refine CW.region ?_
        refine RL.y rfl (y_ixa sT22 (eqw (hc.1.ext hE2)) (k := i) (hc.lt hlti) rfl rfl) ?_
        refine RL.y rfl (y_load sc34 (eqw (hc.1.ext hE2)) (hc.at hlti) rfl) ?_
        refine RL.y rfl (y_asg (by conv => lhs; whnf)) ?_
        refine RL.nil ?_
        refine Fin.next ?_
        refine CW.seq ?_
        refine CW.region ?_
        refine RL.y rfl (y_mov (by conv => lhs; whnf)) ?_
        refine RL.y rfl (y_len sT22 hc.1 hc.2.1 rfl) ?_
        refine RL.y rfl (y_mov rfl) ?_
        refine RL.nil ?_
        refine Fin.next ?_
        refine CW.block ?_
        refine CW.loop (fun m E w' => ∃ k : Nat, m = rs.length - k ∧ k ≤ rs.length ∧ agrees E [(0, v), (14, v), (15, .int .i64 rs.length), (16, .int .i64 (i : Int)), (6, cs.getD i undef), (20, v), (21, .int .i64 rs.length), (22, .int .i64 (k : Int))] ∧ (∀ k', k' < k → ¬ bad (rs.getD i []) (rs.getD k' [])) ∧ Ext w w') _ ⟨0, rfl, Nat.zero_le _, ⟨rfl, rfl, rfl, rfl, rfl, rfl, rfl, rfl, trivial⟩, (fun k' h => absurd h (Nat.not_lt_zero k')), hE2⟩ ?_
        · rintro m E w3 ⟨k, rfl, hkk, hagk, hin, hE3⟩
          refine CW.re _ hagk rfl ?_
          clear hagk
          refine CW.seq ?_
          refine CW.region ?_
          refine RL.y rfl (y_lt rfl rfl) ?_
          refine RL.nil ?_
          refine Fin.next ?_
          refine CW.seq ?_
          refine CW.cond rfl rfl (fun hck => ?_) (fun hck => ?_)
          · with_reducible first | (replace hck := deNF hck) | (replace hck := of_decide_eq_true hck) | (replace hck := of_decide_eq_false hck) | (replace hck := deNT hck) | (replace hck := deNN hck) | (replace hck := bnT hck) | (replace hck := bnF hck) | skip
            have hltk : k < rs.length := by omega
            have hri := hb.2 _ (List.getElem_mem hlti)
            have hrk := hb.2 _ (List.getElem_mem hltk)
            have hno : bad rs[i] rs[k] → ¬ hier rs := fun h h2 => h2 i hlti k hltk (by rw [getD_lt hlti, getD_lt hltk]; exact h)
            have hgo : ¬ bad rs[i] rs[k] → ∀ k', k' < k + 1 → ¬ bad (rs.getD i []) (rs.getD k' []) := fun h => all_succ hin (by rw [getD_lt hlti, getD_lt hltk]; exact h)
            refine CW.skip ?_
            refine Fin.next ?_
            refine CW.seq ?_
            refine CW.block ?_
            refine CW.seq ?_
            refine CW.region ?_
            refine RL.y rfl (y_ixa sT22 (eqw (hc.1.ext hE3)) (k := k) (hc.lt hltk) rfl rfl) ?_
            refine RL.y rfl (y_load sc34 (eqw (hc.1.ext hE3)) (hc.at hltk) rfl) ?_
            refine RL.y rfl (y_asg (by conv => lhs; whnf)) ?_
            refine RL.nil ?_
            refine Fin.next ?_
            refine CW.seq ?_
            refine CW.region ?_
            refine RL.y rfl (y_mov (by conv => lhs; whnf)) ?_
            refine RL.y rfl (y_mov (by conv => lhs; whnf)) ?_
            refine RL.call rfl (isContained_any ((hc.row hlti).ext hE3) ((hc.row hltk).ext hE3) (hri.1.trans hrk.1.symm) hri.2.1.2 hri.2.2 hrk.2.2) ?_
            rintro r w4 ⟨rfl, hE4⟩
            have hE34 := hE3.trans hE4
            refine RL.y rfl (y_not rfl) ?_
            refine RL.y rfl (y_mov (v := .bool _) rfl) ?_
            refine RL.split (t := 30) rfl rfl (fun h1 => ?_) (fun h1 => ?_)
            · with_reducible first | (replace h1 := deNF h1) | (replace h1 := of_decide_eq_true h1) | (replace h1 := of_decide_eq_false h1) | (replace h1 := deNT h1) | (replace h1 := deNN h1) | (replace h1 := bnT h1) | (replace h1 := bnF h1) | skip
              refine RL.take (t := 30) rfl rfl rfl ?_
              refine RL.y rfl (y_mov (by conv => lhs; whnf)) ?_
              refine RL.take (t := 30) rfl rfl rfl ?_
              refine RL.y rfl (y_mov (by conv => lhs; whnf)) ?_
              refine RL.take (t := 30) rfl rfl rfl ?_
              refine RL.call rfl (isContained_any ((hc.row hltk).ext hE34) ((hc.row hlti).ext hE34) (hrk.1.trans hri.1.symm) hrk.2.1.2 hrk.2.2 hri.2.2) ?_
              rintro r w5 ⟨rfl, hE5⟩
              have hE35 := hE34.trans hE5
              refine RL.take (t := 30) rfl rfl rfl ?_
              refine RL.y rfl (y_not rfl) ?_
              refine RL.y rfl (y_pickT (v := .bool _) rfl rfl) ?_
              refine RL.y rfl (y_mov (v := .bool _) rfl) ?_
              refine RL.split (t := 36) rfl rfl (fun h2 => ?_) (fun h2 => ?_)
              · with_reducible first | (replace h2 := deNF h2) | (replace h2 := of_decide_eq_true h2) | (replace h2 := of_decide_eq_false h2) | (replace h2 := deNT h2) | (replace h2 := deNN h2) | (replace h2 := bnT h2) | (replace h2 := bnF h2) | skip
                refine RL.take (t := 36) rfl rfl rfl ?_
                refine RL.y rfl (y_mov (by conv => lhs; whnf)) ?_
                refine RL.take (t := 36) rfl rfl rfl ?_
                refine RL.y rfl (y_mov (by conv => lhs; whnf)) ?_
                refine RL.take (t := 36) rfl rfl rfl ?_
                refine RL.call rfl (inCommon_any ((hc.row hlti).ext hE35) ((hc.row hltk).ext hE35) (hri.1.trans hrk.1.symm) hri.2.1.2) ?_
                rintro vo w6 ⟨ho, hE6⟩
                refine RL.take (t := 36) rfl rfl rfl ?_
                refine RL.y rfl (y_len sT34 ho.sv (ints_len _) rfl) ?_
                refine RL.take (t := 36) rfl rfl rfl ?_
                refine RL.y rfl (y_gt rfl rfl) ?_
                refine RL.y rfl (y_pickT (v := .bool _) rfl rfl) ?_
                refine RL.nil ?_
                refine Fin.next ?_
                refine CW.cond rfl rfl (fun h3 => ?_) (fun h3 => ?_)
                · with_reducible first | (replace h3 := deNF h3) | (replace h3 := of_decide_eq_true h3) | (replace h3 := of_decide_eq_false h3) | (replace h3 := deNT h3) | (replace h3 := deNN h3) | (replace h3 := bnT h3) | (replace h3 := bnF h3) | skip
                  refine CW.seq ?_
                  refine CW.region ?_
                  refine RL.y rfl (y_asg rfl) ?_
                  refine RL.y rfl (y_asg rfl) ?_
                  refine RL.nil ?_
                  refine Fin.next ?_
                  refine CW.ret ?_
                  refine Fin.blockRet ?_
                  refine Fin.thenRet ?_
                  refine Fin.thenRet ?_
                  refine Fin.blockRet ?_
                  refine Fin.blockRet ?_
                  refine Fin.thenRet ?_
                  refine Fin.thenRet ?_
                  refine Fin.blockRet ?_
                  refine Fin.thenRet ?_
                  refine Fin.ret2 rfl (by conv => lhs; whnf) (by conv => lhs; whnf) ?_
                  exact ⟨_, rfl, by rw [decide_eq_false (fun h => hno ⟨⟨h1, h2⟩, by omega⟩ h.2), ttC, if_pos hb], hE35.trans hE6⟩
                · with_reducible first | (replace h3 := deNF h3) | (replace h3 := of_decide_eq_true h3) | (replace h3 := of_decide_eq_false h3) | (replace h3 := deNT h3) | (replace h3 := deNN h3) | (replace h3 := bnT h3) | (replace h3 := bnF h3) | skip
                  refine CW.skip ?_
                  refine Fin.blockNormal ?_
                  refine Fin.next ?_
                  refine CW.region ?_
                  refine RL.y rfl (y_add rfl rfl (IntWalk.i64_in _ (by omega))) ?_
                  refine RL.y rfl (y_mov (v := .int _ _) rfl) ?_
                  refine RL.nil ?_
                  refine Fin.le ?_
                  exact ⟨rs.length - (k + 1), by omega, k + 1, rfl, hltk, ⟨rfl, rfl, rfl, rfl, rfl, rfl, rfl, rfl, trivial⟩, hgo (fun h => h3 (by have := h.2; omega)), hE35.trans hE6⟩
              · with_reducible first | (replace h2 := deNF h2) | (replace h2 := of_decide_eq_true h2) | (replace h2 := of_decide_eq_false h2) | (replace h2 := deNT h2) | (replace h2 := deNN h2) | (replace h2 := bnT h2) | (replace h2 := bnF h2) | skip
                refine RL.pass (t := 36) rfl rfl rfl rfl ?_
                refine RL.pass (t := 36) rfl rfl rfl rfl ?_
                refine RL.pass (t := 36) rfl rfl rfl rfl ?_
                refine RL.pass (t := 36) rfl rfl rfl rfl ?_
                refine RL.pass (t := 36) rfl rfl rfl rfl ?_
                refine RL.y rfl (y_pickF (v := .bool _) rfl rfl) ?_
                refine RL.nil ?_
                refine Fin.next ?_
                refine CW.condF rfl rfl ?_
                refine CW.skip ?_
                refine Fin.blockNormal ?_
                refine Fin.next ?_
                refine CW.region ?_
                refine RL.y rfl (y_add rfl rfl (IntWalk.i64_in _ (by omega))) ?_
                refine RL.y rfl (y_mov (v := .int _ _) rfl) ?_
                refine RL.nil ?_
                refine Fin.le ?_
                exact ⟨rs.length - (k + 1), by omega, k + 1, rfl, hltk, ⟨rfl, rfl, rfl, rfl, rfl, rfl, rfl, rfl, trivial⟩, hgo (fun h => h.1.2 h2), hE35⟩
            · with_reducible first | (replace h1 := deNF h1) | (replace h1 := of_decide_eq_true h1) | (replace h1 := of_decide_eq_false h1) | (replace h1 := deNT h1) | (replace h1 := deNN h1) | (replace h1 := bnT h1) | (replace h1 := bnF h1) | skip
              refine RL.pass (t := 30) rfl rfl rfl rfl ?_
              refine RL.pass (t := 30) rfl rfl rfl rfl ?_
              refine RL.pass (t := 30) rfl rfl rfl rfl ?_
              refine RL.pass (t := 30) rfl rfl rfl rfl ?_
              refine RL.y rfl (y_pickF (v := .bool _) rfl rfl) ?_
              refine RL.y rfl (y_mov (v := .bool _) rfl) ?_
              refine RL.pass (t := 36) rfl rfl rfl rfl ?_
              refine RL.pass (t := 36) rfl rfl rfl rfl ?_
              refine RL.pass (t := 36) rfl rfl rfl rfl ?_
              refine RL.pass (t := 36) rfl rfl rfl rfl ?_
              refine RL.pass (t := 36) rfl rfl rfl rfl ?_
              refine RL.y rfl (y_pickF (v := .bool _) rfl rfl) ?_
              refine RL.nil ?_
              refine Fin.next ?_
              refine CW.condF rfl rfl ?_
              refine CW.skip ?_
              refine Fin.blockNormal ?_
              refine Fin.next ?_
              refine CW.region ?_
              refine RL.y rfl (y_add rfl rfl (IntWalk.i64_in _ (by omega))) ?_
              refine RL.y rfl (y_mov (v := .int _ _) rfl) ?_
              refine RL.nil ?_
              refine Fin.le ?_
              exact ⟨rs.length - (k + 1), by omega, k + 1, rfl, hltk, ⟨rfl, rfl, rfl, rfl, rfl, rfl, rfl, rfl, trivial⟩, hgo (fun h => h.1.1 h1), hE34⟩
          · with_reducible first | (replace hck := deNF hck) | (replace hck := of_decide_eq_true hck) | (replace hck := of_decide_eq_false hck) | (replace hck := deNT hck) | (replace hck := deNN hck) | (replace hck := bnT hck) | (replace hck := bnF hck) | skip
            obtain rfl : rs.length = k := by omega
            refine CW.exit ?_
            refine Fin.thenExit ?_
            refine Fin.thenExit ?_
            refine Fin.blockHit ?_
            refine Fin.blockNormal ?_
            refine Fin.next ?_
            refine CW.region ?_
            refine RL.y rfl (y_add rfl rfl (IntWalk.i64_in _ (by omega))) ?_
            refine RL.y rfl (y_mov (v := .int _ _) rfl) ?_
            refine RL.nil ?_
            refine Fin.le ?_
            exact ⟨rs.length - (i + 1), by omega, i + 1, rfl, hlti, ⟨rfl, rfl, rfl, rfl, trivial⟩, all_succ hall hin, hE3⟩
      · with_reducible first | (replace hci := deNF hci) | (replace hci := of_decide_eq_true hci) | (replace hci := of_decide_eq_false hci) | (replace hci := deNT hci) | (replace hci := deNN hci) | (replace hci := bnT hci) | (replace hci := bnF hci) | skip
        obtain rfl : rs.length = i := by omega
        refine CW.exit ?_
        refine Fin.thenExit ?_
        refine Fin.thenExit ?_
        refine Fin.blockHit ?_
        refine Fin.next ?_
        refine CW.seq ?_
        refine CW.region ?_
        refine RL.y rfl (y_asg rfl) ?_
        refine RL.y rfl (y_asg rfl) ?_
        refine RL.nil ?_
        refine Fin.next ?_
        refine CW.ret ?_
        refine Fin.ret2 rfl (by conv => lhs; whnf) (by conv => lhs; whnf) ?_
        exact ⟨_, rfl, by rw [decide_eq_true ⟨hb, hall⟩, ttC, if_pos hb], hE2⟩

theorem specTurnTable_any {w : World} {v : Value} {rs : List (List Int)} (hv : RdSS w v rs) :
    Does Try.prog 15 #[v] w (fun r w' => ∃ v1, r = .tuple #[v1, .int .i64 (ttC rs)] ∧ OwSS w' w.heap.size w'.heap.size v1 (ttV rs) ∧ Ext w w') := by
  refine enter Try.func15 rfl 42 Try.ntmps15 rfl (by kernel_rfl) ?_
  refine CW.seq ?_
  refine CW.region ?_
  refine RL.y rfl (y_asg rfl) ?_
  refine RL.y rfl (y_asg rfl) ?_
  refine RL.nil ?_
  refine Fin.next ?_
  refine CW.seq ?_
  refine CW.seq ?_
  refine CW.region ?_
  refine RL.y rfl (y_mov (by conv => lhs; whnf)) ?_
  refine RL.call rfl (specIsTable_any hv) ?_
  rintro r w1 ⟨rfl, hE⟩
  obtain ⟨cs, hc⟩ := hv
  have hxl := hc.le
  refine RL.y rfl (y_not rfl) ?_
  refine RL.nil ?_
  refine Fin.next ?_
  refine CW.cond rfl rfl (fun hb => ?_) (fun hb => ?_)
  · with_reducible first | (replace hb := deNF hb) | (replace hb := of_decide_eq_true hb) | (replace hb := of_decide_eq_false hb) | (replace hb := deNT hb) | (replace hb := deNN hb) | (replace hb := bnT hb) | (replace hb := bnF hb) | skip
    refine CW.seq ?_
    refine CW.region ?_
    refine RL.y rfl (y_asg rfl) ?_
    refine RL.y rfl (y_asg rfl) ?_
    refine RL.nil ?_
    refine Fin.next ?_
    refine CW.ret ?_
    refine Fin.thenRet ?_
    refine Fin.ret2 rfl (by conv => lhs; whnf) (by conv => lhs; whnf) ?_
    exact ⟨_, rfl, _, by rw [ttC, if_neg hb], by rw [ttV, if_neg hb]; exact OwN.nil _ _, hE⟩
  · with_reducible first | (replace hb := deNF hb) | (replace hb := of_decide_eq_true hb) | (replace hb := of_decide_eq_false hb) | (replace hb := deNT hb) | (replace hb := deNN hb) | (replace hb := bnT hb) | (replace hb := bnF hb) | skip
    have h0 : 0 < rs.length := by have := hb.1; omega
    have hm0 : rs[0].length = tblM rs := (hb.2 _ (List.getElem_mem h0)).1
    have hm := tbl_m hb
    have h10 := hb.1.2
    refine CW.skip ?_
    refine Fin.next ?_
    refine CW.seq ?_
    refine CW.region ?_
    refine RL.lit0 rfl sT22 (fun vo w3 ho3 hE3 hb3 => ?_)
    have hE13 := hE.trans hE3
    refine RL.y rfl (y_asg (by conv => lhs; whnf)) ?_
    refine RL.nil ?_
    refine Fin.next ?_
    refine CW.seq ?_
    refine CW.seq ?_
    refine CW.region ?_
    refine RL.y rfl (y_asg rfl) ?_
    refine RL.nil ?_
    refine Fin.next ?_
    refine CW.block ?_
    refine CW.loop (fun q E w' => ∃ (k : Nat) (vo : Value) (ds : List Value) (U : Nat), q = tblM rs - k ∧ k ≤ tblM rs ∧ agrees E [(0, v), (4, vo), (5, .int .i64 (k : Int))] ∧ OwC ints 2 34 w' w.heap.size U vo ds ((List.range k).map (col rs)) ∧ Ext w w') _ (⟨0, vo, [], _, rfl, Nat.zero_le _, ⟨rfl, rfl, rfl, trivial⟩, OwC.nil (ho3.mono hE.size), hE13⟩) ?_
    · rintro q E w2 ⟨k, vo, ds, U, rfl, hk, hag, ho2, hE2⟩
      refine CW.re _ hag rfl ?_
      have hdl := ho2.2.1
      simp only [List.length_map, List.length_range] at hdl
      refine CW.seq ?_
      refine CW.seq ?_
      refine CW.region ?_
      refine RL.y rfl (y_mov (v := .int _ _) rfl) ?_
      refine RL.y rfl (y_mov (by conv => lhs; whnf)) ?_
      refine RL.y rfl (y_ixa sT22 (eqw (hc.1.ext hE2)) (k := 0) (hc.lt h0) rfl rfl) ?_
      refine RL.y rfl (y_load sc34 (eqw (hc.1.ext hE2)) (hc.at h0) rfl) ?_
      refine RL.y rfl (y_len sT34 (hc.row h0) (ints_len _) rfl) ?_
      refine RL.y rfl (y_lt rfl rfl) ?_
      refine RL.nil ?_
      refine Fin.next ?_
      refine CW.cond rfl rfl (fun hck => ?_) (fun hck => ?_)
      · with_reducible first | (replace hck := deNF hck) | (replace hck := of_decide_eq_true hck) | (replace hck := of_decide_eq_false hck) | (replace hck := deNT hck) | (replace hck := deNN hck) | (replace hck := bnT hck) | (replace hck := bnF hck) | skip
        have hlt : k < tblM rs := by omega
        refine CW.skip ?_
        refine Fin.next ?_
        refine CW.seq ?_
        refine CW.block ?_
        refine CW.seq ?_
        refine CW.region ?_
        refine RL.lit0 rfl sT34 (fun vr w4 ho4 hE4 hb4 => ?_)
        have hU := ho2.1.2.1
        refine RL.y rfl (y_asg (by conv => lhs; whnf)) ?_
        refine RL.nil ?_
        refine Fin.next ?_
        refine CW.seq ?_
        refine CW.seq ?_
        refine CW.region ?_
        refine RL.y rfl (y_asg rfl) ?_
        refine RL.nil ?_
        refine Fin.next ?_
        refine CW.block ?_
        refine CW.loop (fun q E w' => ∃ (i : Nat) (vr : Value), q = rs.length - i ∧ i ≤ rs.length ∧ agrees E [(0, v), (4, vo), (5, .int .i64 (k : Int)), (6, vr), (7, .int .i64 (i : Int))] ∧ OV w' w2.heap.size 2 vr (ints ((rs.take i).map fun r => r.getD k 0)) ∧ Ext w2 w') _ (⟨0, vr, rfl, Nat.zero_le _, ⟨rfl, rfl, rfl, rfl, rfl, trivial⟩, ho4, hE4⟩) ?_
        · rintro q E w5 ⟨i, vr, rfl, hi, hag, ho5, hE5⟩
          refine CW.re _ hag rfl ?_
          refine CW.seq ?_
          refine CW.seq ?_
          refine CW.region ?_
          refine RL.y rfl (y_mov (v := .int _ _) rfl) ?_
          refine RL.y rfl (y_mov (by conv => lhs; whnf)) ?_
          refine RL.y rfl (y_len sT22 hc.1 hc.2.1 rfl) ?_
          refine RL.y rfl (y_lt rfl rfl) ?_
          refine RL.nil ?_
          refine Fin.next ?_
          refine CW.cond rfl rfl (fun hci => ?_) (fun hci => ?_)
          · with_reducible first | (replace hci := deNF hci) | (replace hci := of_decide_eq_true hci) | (replace hci := of_decide_eq_false hci) | (replace hci := deNT hci) | (replace hci := deNN hci) | (replace hci := bnT hci) | (replace hci := bnF hci) | skip
            have hlti : i < rs.length := by omega
            have hri := hb.2 _ (List.getElem_mem hlti)
            have hkr : k < rs[i].length := by rw [hri.1]; exact hlt
            have hE25 := hE2.trans hE5
            refine CW.skip ?_
            refine Fin.next ?_
            refine CW.seq ?_
            refine CW.block ?_
            refine CW.region ?_
            refine RL.y rfl (y_mov (by conv => lhs; whnf)) ?_
            refine RL.y rfl (y_mov (by conv => lhs; whnf)) ?_
            refine RL.y rfl (y_mov (v := .int _ _) rfl) ?_
            refine RL.y rfl (y_ixa sT22 (eqw (hc.1.ext hE25)) (k := i) (hc.lt hlti) rfl rfl) ?_
            refine RL.y rfl (y_load sc34 (eqw (hc.1.ext hE25)) (hc.at hlti) rfl) ?_
            refine RL.y rfl (y_mov (v := .int _ _) rfl) ?_
            refine RL.y rfl (y_ixa sT34 (eqw ((hc.row hlti).ext hE25)) (k := k) (ints_lt hkr) rfl rfl) ?_
            refine RL.y rfl (y_load sc2 (eqw ((hc.row hlti).ext hE25)) (ints_at hkr) rfl) ?_
            refine RL.app1i rfl rfl sT34 (by omega) ho5 (by simp; omega) hE5.size rfl (fun _ => rfl) (fun u v6 w6 ho6 hg6 hn6 => ?_)
            refine RL.y rfl (y_asg (by conv => lhs; whnf)) ?_
            refine RL.nil ?_
            refine Fin.blockNormal ?_
            refine Fin.next ?_
            refine CW.region ?_
            refine RL.y rfl (y_mov (v := .int _ _) rfl) ?_
            refine RL.y rfl (y_add rfl rfl (IntWalk.i64_in _ (by omega))) ?_
            refine RL.y rfl (y_asg (v := .int _ _) rfl) ?_
            refine RL.nil ?_
            refine Fin.le ?_
            exact ⟨rs.length - (i + 1), by omega, i + 1, v6, rfl, hlti, ⟨rfl, rfl, rfl, rfl, rfl, trivial⟩, by rw [col_snoc hlti, getD_lt hkr]; exact ho6, hE5.grown hg6 (fun b hb => (ho5.lt b hb).1)⟩
          · with_reducible first | (replace hci := deNF hci) | (replace hci := of_decide_eq_true hci) | (replace hci := of_decide_eq_false hci) | (replace hci := deNT hci) | (replace hci := deNN hci) | (replace hci := bnT hci) | (replace hci := bnF hci) | skip
            obtain rfl : i = rs.length := by omega
            rw [List.take_length] at ho5
            replace ho5 : OV w5 w2.heap.size 2 vr (ints (col rs k)) := ho5
            have ho25 := ho2.ext hE5
            refine CW.exit ?_
            refine Fin.thenExit ?_
            refine Fin.thenExit ?_
            refine Fin.blockHit ?_
            refine Fin.next ?_
            refine CW.region ?_
            refine RL.y rfl (y_mov (by conv => lhs; whnf)) ?_
            refine RL.y rfl (y_mov (by conv => lhs; whnf)) ?_
            refine RL.app1 rfl rfl sT22 (by omega) ho25.1.ov (by omega) (hE2.trans hE5).size rfl (slice_one ho5.sv) (fun _ => rfl) (fun u v6 w6 ho6 hg6 hn6 => ?_)
            have hp := ho25.push (ho5.mono hE2.size) (fun b hb => by have := (ho5.lt b hb).1; omega) ho6 hg6 hn6
            rw [← turn_snoc] at hp
            refine RL.y rfl (y_asg (by conv => lhs; whnf)) ?_
            refine RL.nil ?_
            refine Fin.blockNormal ?_
            refine Fin.next ?_
            refine CW.region ?_
            refine RL.y rfl (y_mov (v := .int _ _) rfl) ?_
            refine RL.y rfl (y_add rfl rfl (IntWalk.i64_in _ (by omega))) ?_
            refine RL.y rfl (y_asg (v := .int _ _) rfl) ?_
            refine RL.nil ?_
            refine Fin.le ?_
            exact ⟨tblM rs - (k + 1), by omega, k + 1, v6, _, _, rfl, hlt, ⟨rfl, rfl, rfl, trivial⟩, hp, (hE2.trans hE5).grown hg6 (fun b hb => (ho25.1.lt b hb).1)⟩
      · with_reducible first | (replace hck := deNF hck) | (replace hck := of_decide_eq_true hck) | (replace hck := of_decide_eq_false hck) | (replace hck := deNT hck) | (replace hck := deNN hck) | (replace hck := bnT hck) | (replace hck := bnF hck) | skip
        obtain rfl : k = tblM rs := by omega
        refine CW.exit ?_
        refine Fin.thenExit ?_
        refine Fin.thenExit ?_
        refine Fin.blockHit ?_
        refine Fin.next ?_
        refine CW.seq ?_
        refine CW.region ?_
        refine RL.y rfl (y_mov (by conv => lhs; whnf)) ?_
        refine RL.y rfl (y_asg (by conv => lhs; whnf)) ?_
        refine RL.y rfl (y_asg rfl) ?_
        refine RL.nil ?_
        refine Fin.next ?_
        refine CW.ret ?_
        refine Fin.ret2 rfl (by conv => lhs; whnf) (by conv => lhs; whnf) ?_
        exact ⟨_, rfl, _, by rw [ttC, if_pos hb], by rw [ttV, if_pos hb]; exact OwN.wide ⟨ds, ho2⟩ (Nat.le_refl _) ho2.1.2.1 (Nat.le_refl _), hE2⟩
theorem implTurnTable_any {w : World} {v : Value} {rs : List (List Int)} (hv : RdSS w v rs) :
    Does Try.prog 16 #[v] w (fun r w' => ∃ v1, r = .tuple #[v1, .int .i64 (ttC rs)] ∧ OwSS w' w.heap.size w'.heap.size v1 (ttV rs) ∧ Ext w w') := by
  refine enter Try.func16 rfl 44 Try.ntmps16 rfl (by kernel_rfl) ?_
  refine CW.seq ?_
  refine CW.region ?_
  refine RL.y rfl (y_asg rfl) ?_
  refine RL.y rfl (y_asg rfl) ?_
  refine RL.nil ?_
  refine Fin.next ?_
  refine CW.seq ?_
  refine CW.seq ?_
  refine CW.region ?_
  refine RL.y rfl (y_mov (by conv => lhs; whnf)) ?_
  refine RL.call rfl (tableCode_any (ks := []) hv (SV.nil _)) ?_
  rintro r w1 ⟨rfl, rfl⟩
  obtain ⟨cs, hc⟩ := hv
  have hxl := hc.le
  rw [ttC_eq]
  refine RL.y rfl (y_asg (v := .int _ _) rfl) ?_
  refine RL.nil ?_
  refine Fin.next ?_
  refine CW.seq ?_
  refine CW.region ?_
  refine RL.y rfl (y_mov (v := .int _ _) rfl) ?_
  refine RL.y rfl (y_ne rfl rfl) ?_
  refine RL.nil ?_
  refine Fin.next ?_
  refine CW.cond rfl rfl (fun hb0 => ?_) (fun hb0 => ?_)
  · with_reducible first | (replace hb0 := deNF hb0) | (replace hb0 := of_decide_eq_true hb0) | (replace hb0 := of_decide_eq_false hb0) | (replace hb0 := deNT hb0) | (replace hb0 := deNN hb0) | (replace hb0 := bnT hb0) | (replace hb0 := bnF hb0) | skip
    have hb : ¬ tbl rs := fun h => hb0 (if_pos h)
    refine CW.seq ?_
    refine CW.region ?_
    refine RL.y rfl (y_mov (v := .int _ _) rfl) ?_
    refine RL.y rfl (y_asg rfl) ?_
    refine RL.y rfl (y_asg (v := .int _ _) rfl) ?_
    refine RL.nil ?_
    refine Fin.next ?_
    refine CW.ret ?_
    refine Fin.thenRet ?_
    refine Fin.ret2 rfl (by conv => lhs; whnf) (by conv => lhs; whnf) ?_
    exact ⟨_, rfl, _, rfl, by rw [ttV, if_neg hb]; exact OwN.nil _ _, Ext.refl _⟩
  · with_reducible first | (replace hb0 := deNF hb0) | (replace hb0 := of_decide_eq_true hb0) | (replace hb0 := of_decide_eq_false hb0) | (replace hb0 := deNT hb0) | (replace hb0 := deNN hb0) | (replace hb0 := bnT hb0) | (replace hb0 := bnF hb0) | skip
    have hb : tbl rs := Classical.byContradiction fun h => by unfold ttC at hb0; rw [if_neg h] at hb0; omega
    have h0 : 0 < rs.length := by have := hb.1; omega
    have hm0 : rs[0].length = tblM rs := (hb.2 _ (List.getElem_mem h0)).1
    have hm := tbl_m hb
    have h10 := hb.1.2
    refine CW.skip ?_
    refine Fin.next ?_
    refine CW.seq ?_
    refine CW.region ?_
    refine RL.lit0 rfl sT22 (fun vo w3 ho3 hE3 hb3 => ?_)
    refine RL.y rfl (y_asg (by conv => lhs; whnf)) ?_
    refine RL.nil ?_
    refine Fin.next ?_
    refine CW.seq ?_
    refine CW.seq ?_
    refine CW.region ?_
    refine RL.y rfl (y_mov (by conv => lhs; whnf)) ?_
    refine RL.y rfl (y_ixa sT22 (eqw (hc.1.ext hE3)) (k := 0) (hc.lt h0) rfl rfl) ?_
    refine RL.y rfl (y_load sc34 (eqw (hc.1.ext hE3)) (hc.at h0) rfl) ?_
    refine RL.y rfl (y_len sT34 (hc.row h0) (ints_len _) rfl) ?_
    rw [hm0]
    refine RL.y rfl (y_mov rfl) ?_
    refine RL.nil ?_
    refine Fin.next ?_
    refine CW.block ?_
    refine CW.loop (fun q E w' => ∃ (k : Nat) (vo : Value) (ds : List Value) (U : Nat), q = tblM rs - k ∧ k ≤ tblM rs ∧ agrees E [(0, v), (5, vo), (19, .int .i64 (tblM rs : Int)), (20, .int .i64 (k : Int))] ∧ OwC ints 2 34 w' w.heap.size U vo ds ((List.range k).map (col rs)) ∧ Ext w w') _ (⟨0, vo, [], _, rfl, Nat.zero_le _, ⟨rfl, rfl, rfl, rfl, trivial⟩, OwC.nil ho3, hE3⟩) ?_
    · rintro q E w2 ⟨k, vo, ds, U, rfl, hk, hag, ho2, hE2⟩
      refine CW.re _ hag rfl ?_
      have hdl := ho2.2.1
      simp only [List.length_map, List.length_range] at hdl
      refine CW.seq ?_
      refine CW.region ?_
      refine RL.y rfl (y_lt rfl rfl) ?_
      refine RL.nil ?_
      refine Fin.next ?_
      refine CW.seq ?_
      refine CW.cond rfl rfl (fun hck => ?_) (fun hck => ?_)
      · with_reducible first | (replace hck := deNF hck) | (replace hck := of_decide_eq_true hck) | (replace hck := of_decide_eq_false hck) | (replace hck := deNT hck) | (replace hck := deNN hck) | (replace hck := bnT hck) | (replace hck := bnF hck) | skip
        have hlt : k < tblM rs := by omega
        refine CW.skip ?_
        refine Fin.next ?_
        refine CW.seq ?_
        refine CW.block ?_
        refine CW.seq ?_
        refine CW.region ?_
        refine RL.y rfl (y_mov (v := .int _ _) rfl) ?_
        refine RL.y rfl (y_asg (v := .int _ _) rfl) ?_
        refine RL.nil ?_
        refine Fin.next ?_
        refine CW.seq ?_
        refine CW.region ?_
        refine RL.lit0 rfl sT34 (fun vr w4 ho4 hE4 hb4 => ?_)
        have hU := ho2.1.2.1
        refine RL.y rfl (y_asg (by conv => lhs; whnf)) ?_
        refine RL.nil ?_
        refine Fin.next ?_
        refine CW.seq ?_
        refine CW.seq ?_
        refine CW.region ?_
        refine RL.y rfl (y_mov (by conv => lhs; whnf)) ?_
        refine RL.y rfl (y_len sT22 hc.1 hc.2.1 rfl) ?_
        refine RL.y rfl (y_mov rfl) ?_
        refine RL.nil ?_
        refine Fin.next ?_
        refine CW.block ?_
        refine CW.loop (fun q E w' => ∃ (i : Nat) (vr : Value), q = rs.length - i ∧ i ≤ rs.length ∧ agrees E [(0, v), (5, vo), (19, .int .i64 (tblM rs : Int)), (20, .int .i64 (k : Int)), (6, .int .i64 (k : Int)), (24, v), (25, .int .i64 rs.length), (7, vr), (26, .int .i64 (i : Int))] ∧ OV w' w2.heap.size 2 vr (ints ((rs.take i).map fun r => r.getD k 0)) ∧ Ext w2 w') _ (⟨0, vr, rfl, Nat.zero_le _, ⟨rfl, rfl, rfl, rfl, rfl, rfl, rfl, rfl, rfl, trivial⟩, ho4, hE4⟩) ?_
        · rintro q E w5 ⟨i, vr, rfl, hi, hag, ho5, hE5⟩
          refine CW.re _ hag rfl ?_
          refine CW.seq ?_
          refine CW.region ?_
          refine RL.y rfl (y_lt rfl rfl) ?_
          refine RL.nil ?_
          refine Fin.next ?_
          refine CW.seq ?_
          refine CW.cond rfl rfl (fun hci => ?_) (fun hci => ?_)
          · with_reducible first | (replace hci := deNF hci) | (replace hci := of_decide_eq_true hci) | (replace hci := of_decide_eq_false hci) | (replace hci := deNT hci) | (replace hci := deNN hci) | (replace hci := bnT hci) | (replace hci := bnF hci) | skip
            have hlti : i < rs.length := by omega
            have hri := hb.2 _ (List.getElem_mem hlti)
            have hkr : k < rs[i].length := by rw [hri.1]; exact hlt
            have hE25 := hE2.trans hE5
            refine CW.skip ?_
            refine Fin.next ?_
            refine CW.seq ?_
            refine CW.block ?_
            refine CW.seq ?_
            refine CW.region ?_
            refine RL.y rfl (y_ixa sT22 (eqw (hc.1.ext hE25)) (k := i) (hc.lt hlti) rfl rfl) ?_
            refine RL.y rfl (y_load sc34 (eqw (hc.1.ext hE25)) (hc.at hlti) rfl) ?_
            refine RL.y rfl (y_asg (by conv => lhs; whnf)) ?_
            refine RL.nil ?_
            refine Fin.next ?_
            refine CW.region ?_
            refine RL.y rfl (y_mov (by conv => lhs; whnf)) ?_
            refine RL.y rfl (y_mov (by conv => lhs; whnf)) ?_
            refine RL.y rfl (y_mov (v := .int _ _) rfl) ?_
            refine RL.y rfl (y_ixa sT34 (eqw ((hc.row hlti).ext hE25)) (k := k) (ints_lt hkr) rfl rfl) ?_
            refine RL.y rfl (y_load sc2 (eqw ((hc.row hlti).ext hE25)) (ints_at hkr) rfl) ?_
            refine RL.app1i rfl rfl sT34 (by omega) ho5 (by simp; omega) hE5.size rfl (fun _ => rfl) (fun u v6 w6 ho6 hg6 hn6 => ?_)
            refine RL.y rfl (y_asg (by conv => lhs; whnf)) ?_
            refine RL.nil ?_
            refine Fin.blockNormal ?_
            refine Fin.next ?_
            refine CW.region ?_
            refine RL.y rfl (y_add rfl rfl (IntWalk.i64_in _ (by omega))) ?_
            refine RL.y rfl (y_mov (v := .int _ _) rfl) ?_
            refine RL.nil ?_
            refine Fin.le ?_
            exact ⟨rs.length - (i + 1), by omega, i + 1, v6, rfl, hlti, ⟨rfl, rfl, rfl, rfl, rfl, rfl, rfl, rfl, rfl, trivial⟩, by rw [col_snoc hlti, getD_lt hkr]; exact ho6, hE5.grown hg6 (fun b hb => (ho5.lt b hb).1)⟩
          · with_reducible first | (replace hci := deNF hci) | (replace hci := of_decide_eq_true hci) | (replace hci := of_decide_eq_false hci) | (replace hci := deNT hci) | (replace hci := deNN hci) | (replace hci := bnT hci) | (replace hci := bnF hci) | skip
            obtain rfl : i = rs.length := by omega
            rw [List.take_length] at ho5
            replace ho5 : OV w5 w2.heap.size 2 vr (ints (col rs k)) := ho5
            have ho25 := ho2.ext hE5
            refine CW.exit ?_
            refine Fin.thenExit ?_
            refine Fin.thenExit ?_
            refine Fin.blockHit ?_
            refine Fin.next ?_
            refine CW.region ?_
            refine RL.y rfl (y_mov (by conv => lhs; whnf)) ?_
            refine RL.y rfl (y_mov (by conv => lhs; whnf)) ?_
            refine RL.app1 rfl rfl sT22 (by omega) ho25.1.ov (by omega) (hE2.trans hE5).size rfl (slice_one ho5.sv) (fun _ => rfl) (fun u v6 w6 ho6 hg6 hn6 => ?_)
            have hp := ho25.push (ho5.mono hE2.size) (fun b hb => by have := (ho5.lt b hb).1; omega) ho6 hg6 hn6
            rw [← turn_snoc] at hp
            refine RL.y rfl (y_asg (by conv => lhs; whnf)) ?_
            refine RL.nil ?_
            refine Fin.blockNormal ?_
            refine Fin.next ?_
            refine CW.region ?_
            refine RL.y rfl (y_add rfl rfl (IntWalk.i64_in _ (by omega))) ?_
            refine RL.y rfl (y_mov (v := .int _ _) rfl) ?_
            refine RL.nil ?_
            refine Fin.le ?_
            exact ⟨tblM rs - (k + 1), by omega, k + 1, v6, _, _, rfl, hlt, ⟨rfl, rfl, rfl, rfl, trivial⟩, hp, (hE2.trans hE5).grown hg6 (fun b hb => (ho25.1.lt b hb).1)⟩
      · with_reducible first | (replace hck := deNF hck) | (replace hck := of_decide_eq_true hck) | (replace hck := of_decide_eq_false hck) | (replace hck := deNT hck) | (replace hck := deNN hck) | (replace hck := bnT hck) | (replace hck := bnF hck) | skip
        obtain rfl : k = tblM rs := by omega
        refine CW.exit ?_
        refine Fin.thenExit ?_
        refine Fin.thenExit ?_
        refine Fin.blockHit ?_
        refine Fin.next ?_
        refine CW.seq ?_
        refine CW.region ?_
        refine RL.y rfl (y_mov (by conv => lhs; whnf)) ?_
        refine RL.y rfl (y_asg (by conv => lhs; whnf)) ?_
        refine RL.y rfl (y_asg rfl) ?_
        refine RL.nil ?_
        refine Fin.next ?_
        refine CW.ret ?_
        refine Fin.ret2 rfl (by conv => lhs; whnf) (by conv => lhs; whnf) ?_
        exact ⟨_, rfl, _, by rw [ttC, if_pos hb], by rw [ttV, if_pos hb]; exact OwN.wide ⟨ds, ho2⟩ (Nat.le_refl _) ho2.1.2.1 (Nat.le_refl _), hE2⟩
end Go.Proofs.Ytaabfkcbkcmneaa
