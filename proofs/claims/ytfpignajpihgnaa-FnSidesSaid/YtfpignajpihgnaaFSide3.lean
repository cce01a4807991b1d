/-
  CountFamilies, FamiliesOf, NearestFamily, AreApart.
-/
import Derived.Test.YtfpignajpihgnaaFSide2
import Derived.Test.YtfpignajpihgnaaCut2
namespace Go.Proofs.Ytfpignajpihgnaa
open B Go.RowKit

theorem rd_nil {w : World} : RdSS w (.slice none 0 0) [] := ⟨[], SV.nil _, rfl, fun i hi => absurd hi (Nat.not_lt_zero i)⟩
theorem rd_one {w : World} {v c : Value} {xs : List Int} (h : SV w v [c]) (hc : SI w c xs) : RdSS w v [xs] := ⟨[c], h, rfl, fun i hi => by
  obtain rfl : i = 0 := by simpa using hi
  exact hc⟩
theorem fbC_no {s v d : Int} (h : fbC s v d ≠ 0) : ¬ dis s v d := fun hd => h (if_pos hd)
theorem fbC_yes {s v d : Int} (h : fbC s v d = 0) : dis s v d := Classical.byContradiction fun hd => by unfold fbC at h; rw [if_neg hd] at h; omega

theorem specCountFamilies_any {w : World} {s v d : Int} :
    Does Try.prog 23 #[.int .i64 s, .int .i64 v, .int .i64 d] w (fun r w' => r = .tuple #[.int .i64 (cfV s v d), .int .i64 (fbC s v d)] ∧ Ext w w') := by
  refine enter Try.func23 rfl 18 Try.ntmps23 rfl (by kernel_rfl) ?_
  refine CW.seq ?_
  refine CW.region ?_
  refine RL.y rfl (y_asg rfl) ?_
  refine RL.y rfl (y_asg rfl) ?_
  refine RL.nil ?_
  refine Fin.next ?_
  refine CW.seq ?_
  refine CW.seq ?_
  refine CW.region ?_
  refine RL.y rfl (y_mov (v := .int _ _) rfl) ?_
  refine RL.y rfl (y_mov (v := .int _ _) rfl) ?_
  refine RL.y rfl (y_mov (v := .int _ _) rfl) ?_
  refine RL.call rfl (l07Distance_any) ?_
  rintro r w1 ⟨rfl, rfl⟩
  refine RL.y rfl (y_not rfl) ?_
  refine RL.nil ?_
  refine Fin.next ?_
  refine CW.cond rfl rfl (fun hb => ?_) (fun hb => ?_)
  · with_reducible first | (replace hb := deNF hb) | (replace hb := of_decide_eq_true hb) | (replace hb := of_decide_eq_false hb) | (replace hb := deNT hb) | (replace hb := deNN hb) | (replace hb := bnT hb) | (replace hb := bnF hb) | skip
    refine CW.seq ?_
    refine CW.region ?_
    refine RL.y rfl (y_asg rfl) ?_
    refine RL.y rfl (y_asg rfl) ?_
    refine RL.nil ?_
    refine Fin.next ?_
    refine CW.ret ?_
    refine Fin.thenRet ?_
    refine Fin.ret2 rfl (by conv => lhs; whnf) (by conv => lhs; whnf) ?_
    exact ⟨_, rfl, by simp [cfV, fbC, hb], Ext.refl _⟩
  · with_reducible first | (replace hb := deNF hb) | (replace hb := of_decide_eq_true hb) | (replace hb := of_decide_eq_false hb) | (replace hb := deNT hb) | (replace hb := deNN hb) | (replace hb := bnT hb) | (replace hb := bnF hb) | skip
    have hs1 := hb.1.1
    have hs2 := hb.1.2
    obtain ⟨sn, rfl⟩ := Int.eq_ofNat_of_zero_le (show 0 ≤ s by omega)
    obtain ⟨vn, rfl⟩ := Int.eq_ofNat_of_zero_le (show 0 ≤ v by omega)
    refine CW.skip ?_
    refine Fin.next ?_
    refine CW.seq ?_
    refine CW.region ?_
    refine RL.y rfl (y_mov (v := .int _ _) rfl) ?_
    refine RL.y rfl (y_mov (v := .int _ _) rfl) ?_
    refine RL.y rfl (y_mov (v := .int _ _) rfl) ?_
    refine RL.call rfl (l07Families_any hb.1) ?_
    rintro vo w1 ⟨ho, hE⟩
    obtain ⟨cs, ho⟩ := ho
    refine RL.y rfl (y_len sT33 ho.rdc.1 ho.2.1 rfl) ?_
    refine RL.y rfl (y_asg (v := .int _ _) rfl) ?_
    refine RL.y rfl (y_asg rfl) ?_
    refine RL.nil ?_
    refine Fin.next ?_
    refine CW.ret ?_
    refine Fin.ret2 rfl (by conv => lhs; whnf) (by conv => lhs; whnf) ?_
    exact ⟨_, rfl, by simp [cfV, fbC, hb], hE⟩
theorem implCountFamilies_any {w : World} {s v d : Int} :
    Does Try.prog 24 #[.int .i64 s, .int .i64 v, .int .i64 d] w (fun r w' => r = .tuple #[.int .i64 (cfV s v d), .int .i64 (fbC s v d)] ∧ Ext w w') := by
  refine enter Try.func24 rfl 21 Try.ntmps24 rfl (by kernel_rfl) ?_
  refine CW.seq ?_
  refine CW.region ?_
  refine RL.y rfl (y_asg rfl) ?_
  refine RL.y rfl (y_asg rfl) ?_
  refine RL.nil ?_
  refine Fin.next ?_
  refine CW.seq ?_
  refine CW.seq ?_
  refine CW.region ?_
  refine RL.y rfl (y_mov (v := .int _ _) rfl) ?_
  refine RL.y rfl (y_mov (v := .int _ _) rfl) ?_
  refine RL.y rfl (y_mov (v := .int _ _) rfl) ?_
  refine RL.call rfl (sidesCode_any rd_nil) ?_
  rintro r w1 ⟨rfl, rfl⟩
  rw [scC_nil]
  refine RL.y rfl (y_asg (v := .int _ _) rfl) ?_
  refine RL.nil ?_
  refine Fin.next ?_
  refine CW.seq ?_
  refine CW.region ?_
  refine RL.y rfl (y_mov (v := .int _ _) rfl) ?_
  refine RL.y rfl (y_ne rfl rfl) ?_
  refine RL.nil ?_
  refine Fin.next ?_
  refine CW.cond rfl rfl (fun hb => ?_) (fun hb => ?_)
  · with_reducible first | (replace hb := deNF hb) | (replace hb := of_decide_eq_true hb) | (replace hb := of_decide_eq_false hb) | (replace hb := deNT hb) | (replace hb := deNN hb) | (replace hb := bnT hb) | (replace hb := bnF hb) | skip
    refine CW.seq ?_
    refine CW.region ?_
    refine RL.y rfl (y_mov (v := .int _ _) rfl) ?_
    refine RL.y rfl (y_asg rfl) ?_
    refine RL.y rfl (y_asg (v := .int _ _) rfl) ?_
    refine RL.nil ?_
    refine Fin.next ?_
    refine CW.ret ?_
    refine Fin.thenRet ?_
    refine Fin.ret2 rfl (by conv => lhs; whnf) (by conv => lhs; whnf) ?_
    exact ⟨_, rfl, by simp [cfV, fbC_no hb], Ext.refl _⟩
  · with_reducible first | (replace hb := deNF hb) | (replace hb := of_decide_eq_true hb) | (replace hb := of_decide_eq_false hb) | (replace hb := deNT hb) | (replace hb := deNN hb) | (replace hb := bnT hb) | (replace hb := bnF hb) | skip
    have hb := fbC_yes hb
    have hs1 := hb.1.1
    have hs2 := hb.1.2
    obtain ⟨sn, rfl⟩ := Int.eq_ofNat_of_zero_le (show 0 ≤ s by omega)
    obtain ⟨vn, rfl⟩ := Int.eq_ofNat_of_zero_le (show 0 ≤ v by omega)
    have hsm := pow_small hb.1
    have hle : (fams sn vn d).length ≤ Int.toNat 10000 := Nat.le_trans (by rw [fams_eq]; exact famTo_le _ _ _ _) (pow_small10 hb.1)
    refine CW.skip ?_
    refine Fin.next ?_
    refine CW.seq ?_
    refine CW.region ?_
    refine RL.y rfl (y_mov (v := .int _ _) rfl) ?_
    refine RL.y rfl (y_mov (v := .int _ _) rfl) ?_
    refine RL.y rfl (y_mov (v := .int _ _) rfl) ?_
    refine RL.call rfl (familiesOf_any hb.1 (by omega)) ?_
    rintro vo w1 ⟨ho, hE⟩
    obtain ⟨cs, ho⟩ := ho
    refine RL.y rfl (y_len sT33 ho.rdc.1 ho.2.1 rfl) ?_
    refine RL.y rfl (y_asg (v := .int _ _) rfl) ?_
    refine RL.y rfl (y_asg rfl) ?_
    refine RL.nil ?_
    refine Fin.next ?_
    refine CW.ret ?_
    refine Fin.ret2 rfl (by conv => lhs; whnf) (by conv => lhs; whnf) ?_
    exact ⟨_, rfl, by rw [List.take_of_length_le hle]; simp [cfV, fbC, hb], hE⟩

theorem specFamiliesOf_any {w : World} {s v d m : Int} :
    Does Try.prog 30 #[.int .i64 s, .int .i64 v, .int .i64 d, .int .i64 m] w (fun r w' => ∃ v1, r = .tuple #[v1, .int .i64 (fmC s v d m)] ∧ OwSS w' w.heap.size w'.heap.size v1 (fmV s v d m) ∧ Ext w w') := by
  refine enter Try.func30 rfl 31 Try.ntmps30 rfl (by kernel_rfl) ?_
  refine CW.seq ?_
  refine CW.region ?_
  refine RL.y rfl (y_asg rfl) ?_
  refine RL.y rfl (y_asg rfl) ?_
  refine RL.nil ?_
  refine Fin.next ?_
  refine CW.seq ?_
  refine CW.seq ?_
  refine CW.region ?_
  refine RL.y rfl (y_mov (v := .int _ _) rfl) ?_
  refine RL.y rfl (y_mov (v := .int _ _) rfl) ?_
  refine RL.y rfl (y_mov (v := .int _ _) rfl) ?_
  refine RL.call rfl (l07Distance_any) ?_
  rintro r w1 ⟨rfl, rfl⟩
  refine RL.y rfl (y_not rfl) ?_
  refine RL.y rfl (y_mov (v := .bool _) rfl) ?_
  refine RL.split (t := 16) rfl rfl (fun hb => ?_) (fun hb => ?_)
  · with_reducible first | (replace hb := deNF hb) | (replace hb := of_decide_eq_true hb) | (replace hb := of_decide_eq_false hb) | (replace hb := deNT hb) | (replace hb := deNN hb) | (replace hb := bnT hb) | (replace hb := bnF hb) | skip
    have hno : ¬ fmOk s v d m := fun h => hb h.1
    refine RL.pass (t := 16) rfl rfl rfl rfl ?_
    refine RL.pass (t := 16) rfl rfl rfl rfl ?_
    refine RL.pass (t := 16) rfl rfl rfl rfl ?_
    refine RL.y rfl (y_pickT (v := .bool _) rfl rfl) ?_
    refine RL.nil ?_
    refine Fin.next ?_
    refine CW.condT rfl rfl ?_
    refine CW.seq ?_
    refine CW.region ?_
    refine RL.y rfl (y_asg rfl) ?_
    refine RL.y rfl (y_asg rfl) ?_
    refine RL.nil ?_
    refine Fin.next ?_
    refine CW.ret ?_
    refine Fin.thenRet ?_
    refine Fin.ret2 rfl (by conv => lhs; whnf) (by conv => lhs; whnf) ?_
    exact ⟨_, rfl, _, by rw [fmC, if_neg hno], by rw [fmV, if_neg hno]; exact OwN.nil _ _, Ext.refl _⟩
  · with_reducible first | (replace hb := deNF hb) | (replace hb := of_decide_eq_true hb) | (replace hb := of_decide_eq_false hb) | (replace hb := deNT hb) | (replace hb := deNN hb) | (replace hb := bnT hb) | (replace hb := bnF hb) | skip
    refine RL.take (t := 16) rfl rfl rfl ?_
    refine RL.y rfl (y_mov (v := .int _ _) rfl) ?_
    refine RL.take (t := 16) rfl rfl rfl ?_
    refine RL.call rfl (l01In_any) ?_
    rintro r w1 ⟨rfl, rfl⟩
    refine RL.take (t := 16) rfl rfl rfl ?_
    refine RL.y rfl (y_not rfl) ?_
    refine RL.y rfl (y_pickF (v := .bool _) rfl rfl) ?_
    refine RL.nil ?_
    refine Fin.next ?_
    refine CW.cond rfl rfl (fun hb2 => ?_) (fun hb2 => ?_)
    · with_reducible first | (replace hb2 := deNF hb2) | (replace hb2 := of_decide_eq_true hb2) | (replace hb2 := of_decide_eq_false hb2) | (replace hb2 := deNT hb2) | (replace hb2 := deNN hb2) | (replace hb2 := bnT hb2) | (replace hb2 := bnF hb2) | skip
      have hno : ¬ fmOk s v d m := fun h => hb2 h.2
      refine CW.seq ?_
      refine CW.region ?_
      refine RL.y rfl (y_asg rfl) ?_
      refine RL.y rfl (y_asg rfl) ?_
      refine RL.nil ?_
      refine Fin.next ?_
      refine CW.ret ?_
      refine Fin.thenRet ?_
      refine Fin.ret2 rfl (by conv => lhs; whnf) (by conv => lhs; whnf) ?_
      exact ⟨_, rfl, _, by rw [fmC, if_neg hno], by rw [fmV, if_neg hno]; exact OwN.nil _ _, Ext.refl _⟩
    · with_reducible first | (replace hb2 := deNF hb2) | (replace hb2 := of_decide_eq_true hb2) | (replace hb2 := of_decide_eq_false hb2) | (replace hb2 := deNT hb2) | (replace hb2 := deNN hb2) | (replace hb2 := bnT hb2) | (replace hb2 := bnF hb2) | skip
      have hyes : fmOk s v d m := ⟨hb, hb2⟩
      have hs1 := hb.1.1
      have hs2 := hb.1.2
      obtain ⟨sn, rfl⟩ := Int.eq_ofNat_of_zero_le (show 0 ≤ s by omega)
      obtain ⟨vn, rfl⟩ := Int.eq_ofNat_of_zero_le (show 0 ≤ v by omega)
      obtain ⟨mn, rfl⟩ := Int.eq_ofNat_of_zero_le (show 0 ≤ m by omega)
      refine CW.skip ?_
      refine Fin.next ?_
      refine CW.seq ?_
      refine CW.region ?_
      refine RL.y rfl (y_mov (v := .int _ _) rfl) ?_
      refine RL.y rfl (y_mov (v := .int _ _) rfl) ?_
      refine RL.y rfl (y_mov (v := .int _ _) rfl) ?_
      refine RL.call rfl (l07Families_any hb.1) ?_
      rintro vo w1 ⟨ho, hE⟩
      obtain ⟨cs, ho⟩ := ho
      refine RL.y rfl (y_asg (by conv => lhs; whnf)) ?_
      refine RL.nil ?_
      refine Fin.next ?_
      refine CW.seq ?_
      refine CW.region ?_
      refine RL.y rfl (y_mov (by conv => lhs; whnf)) ?_
      refine RL.y rfl (y_mov (v := .int _ _) rfl) ?_
      refine RL.y rfl (y_mov (by conv => lhs; whnf)) ?_
      refine RL.y rfl (y_len sT33 ho.rdc.1 ho.2.1 rfl) ?_
      refine RL.y rfl (y_minN rfl rfl) ?_
      refine RL.y rfl (y_cutH sT33 (eqw (ho.rdc.1)) (by rw [ho.2.1]; exact Nat.min_le_right _ _) rfl rfl ) ?_
      refine RL.y rfl (y_asg (by conv => lhs; whnf)) ?_
      refine RL.y rfl (y_asg rfl) ?_
      refine RL.nil ?_
      refine Fin.next ?_
      refine CW.ret ?_
      refine Fin.ret2 rfl (by conv => lhs; whnf) (by conv => lhs; whnf) ?_
      exact ⟨_, rfl, _, by rw [fmC, if_pos hyes], by rw [fmV, if_pos hyes]; have := ho.cutp (k := min mn (fams sn vn d).length) (Nat.min_le_right _ _); exact ⟨_, by simpa [List.take_eq_take_min] using this⟩, hE⟩
theorem implFamiliesOf_any {w : World} {s v d m : Int} :
    Does Try.prog 31 #[.int .i64 s, .int .i64 v, .int .i64 d, .int .i64 m] w (fun r w' => ∃ v1, r = .tuple #[v1, .int .i64 (fmC s v d m)] ∧ OwSS w' w.heap.size w'.heap.size v1 (fmV s v d m) ∧ Ext w w') := by
  refine enter Try.func31 rfl 26 Try.ntmps31 rfl (by kernel_rfl) ?_
  refine CW.seq ?_
  refine CW.region ?_
  refine RL.y rfl (y_asg rfl) ?_
  refine RL.y rfl (y_asg rfl) ?_
  refine RL.nil ?_
  refine Fin.next ?_
  refine CW.seq ?_
  refine CW.seq ?_
  refine CW.region ?_
  refine RL.y rfl (y_mov (v := .int _ _) rfl) ?_
  refine RL.y rfl (y_mov (v := .int _ _) rfl) ?_
  refine RL.y rfl (y_mov (v := .int _ _) rfl) ?_
  refine RL.call rfl (sidesCode_any rd_nil) ?_
  rintro r w1 ⟨rfl, rfl⟩
  rw [scC_nil]
  refine RL.y rfl (y_asg (v := .int _ _) rfl) ?_
  refine RL.nil ?_
  refine Fin.next ?_
  refine CW.seq ?_
  refine CW.region ?_
  refine RL.y rfl (y_mov (v := .int _ _) rfl) ?_
  refine RL.y rfl (y_ne rfl rfl) ?_
  refine RL.nil ?_
  refine Fin.next ?_
  refine CW.cond rfl rfl (fun hb => ?_) (fun hb => ?_)
  · with_reducible first | (replace hb := deNF hb) | (replace hb := of_decide_eq_true hb) | (replace hb := of_decide_eq_false hb) | (replace hb := deNT hb) | (replace hb := deNN hb) | (replace hb := bnT hb) | (replace hb := bnF hb) | skip
    have hno : ¬ fmOk s v d m := fun h => fbC_no hb h.1
    refine CW.seq ?_
    refine CW.region ?_
    refine RL.y rfl (y_mov (v := .int _ _) rfl) ?_
    refine RL.y rfl (y_asg rfl) ?_
    refine RL.y rfl (y_asg (v := .int _ _) rfl) ?_
    refine RL.nil ?_
    refine Fin.next ?_
    refine CW.ret ?_
    refine Fin.thenRet ?_
    refine Fin.ret2 rfl (by conv => lhs; whnf) (by conv => lhs; whnf) ?_
    exact ⟨_, rfl, _, by rw [fmC, if_neg hno, fbC, if_neg (fbC_no hb)], by rw [fmV, if_neg hno]; exact OwN.nil _ _, Ext.refl _⟩
  · with_reducible first | (replace hb := deNF hb) | (replace hb := of_decide_eq_true hb) | (replace hb := of_decide_eq_false hb) | (replace hb := deNT hb) | (replace hb := deNN hb) | (replace hb := bnT hb) | (replace hb := bnF hb) | skip
    have hb := fbC_yes hb
    refine CW.skip ?_
    refine Fin.next ?_
    refine CW.seq ?_
    refine CW.seq ?_
    refine CW.region ?_
    refine RL.y rfl (y_mov (v := .int _ _) rfl) ?_
    refine RL.call rfl (within_any) ?_
    rintro r w1 ⟨rfl, rfl⟩
    refine RL.y rfl (y_not rfl) ?_
    refine RL.nil ?_
    refine Fin.next ?_
    refine CW.cond rfl rfl (fun hb2 => ?_) (fun hb2 => ?_)
    · with_reducible first | (replace hb2 := deNF hb2) | (replace hb2 := of_decide_eq_true hb2) | (replace hb2 := of_decide_eq_false hb2) | (replace hb2 := deNT hb2) | (replace hb2 := deNN hb2) | (replace hb2 := bnT hb2) | (replace hb2 := bnF hb2) | skip
      have hno : ¬ fmOk s v d m := fun h => hb2 h.2
      refine CW.seq ?_
      refine CW.region ?_
      refine RL.y rfl (y_asg rfl) ?_
      refine RL.y rfl (y_asg rfl) ?_
      refine RL.nil ?_
      refine Fin.next ?_
      refine CW.ret ?_
      refine Fin.thenRet ?_
      refine Fin.ret2 rfl (by conv => lhs; whnf) (by conv => lhs; whnf) ?_
      exact ⟨_, rfl, _, by rw [fmC, if_neg hno], by rw [fmV, if_neg hno]; exact OwN.nil _ _, Ext.refl _⟩
    · with_reducible first | (replace hb2 := deNF hb2) | (replace hb2 := of_decide_eq_true hb2) | (replace hb2 := of_decide_eq_false hb2) | (replace hb2 := deNT hb2) | (replace hb2 := deNN hb2) | (replace hb2 := bnT hb2) | (replace hb2 := bnF hb2) | skip
      have hyes : fmOk s v d m := ⟨hb, hb2⟩
      have hs1 := hb.1.1
      have hs2 := hb.1.2
      obtain ⟨sn, rfl⟩ := Int.eq_ofNat_of_zero_le (show 0 ≤ s by omega)
      obtain ⟨vn, rfl⟩ := Int.eq_ofNat_of_zero_le (show 0 ≤ v by omega)
      refine CW.skip ?_
      refine Fin.next ?_
      refine CW.seq ?_
      refine CW.region ?_
      refine RL.y rfl (y_mov (v := .int _ _) rfl) ?_
      refine RL.y rfl (y_mov (v := .int _ _) rfl) ?_
      refine RL.y rfl (y_mov (v := .int _ _) rfl) ?_
      refine RL.y rfl (y_mov (v := .int _ _) rfl) ?_
      refine RL.call rfl (familiesOf_any hb.1 hb2.1) ?_
      rintro vo w1 ⟨ho, hE⟩
      refine RL.y rfl (y_asg (by conv => lhs; whnf)) ?_
      refine RL.y rfl (y_asg rfl) ?_
      refine RL.nil ?_
      refine Fin.next ?_
      refine CW.ret ?_
      refine Fin.ret2 rfl (by conv => lhs; whnf) (by conv => lhs; whnf) ?_
      exact ⟨_, rfl, _, by rw [fmC, if_pos hyes], by rw [fmV, if_pos hyes]; exact ho, hE⟩

theorem specNearestFamily_any {w : World} {s v d : Int} {c : Value} {xs : List Int} (hc : SI w c xs) :
    Does Try.prog 34 #[.int .i64 s, .int .i64 v, .int .i64 d, c] w (fun r w' => ∃ v1, r = .tuple #[v1, .int .i64 (scC s v d [xs])] ∧ OV w' w.heap.size 2 v1 (ints (nfV s v d xs)) ∧ Ext w w') := by
  refine enter Try.func34 rfl 51 Try.ntmps34 rfl (by kernel_rfl) ?_
  refine CW.seq ?_
  refine CW.region ?_
  refine RL.y rfl (y_asg rfl) ?_
  refine RL.y rfl (y_asg rfl) ?_
  refine RL.nil ?_
  refine Fin.next ?_
  refine CW.seq ?_
  refine CW.seq ?_
  refine CW.region ?_
  refine RL.y rfl (y_mov (v := .int _ _) rfl) ?_
  refine RL.y rfl (y_mov (v := .int _ _) rfl) ?_
  refine RL.y rfl (y_mov (v := .int _ _) rfl) ?_
  refine RL.call rfl (l07Distance_any) ?_
  rintro r w1 ⟨rfl, rfl⟩
  refine RL.y rfl (y_not rfl) ?_
  refine RL.nil ?_
  refine Fin.next ?_
  refine CW.cond rfl rfl (fun hb => ?_) (fun hb => ?_)
  · with_reducible first | (replace hb := deNF hb) | (replace hb := of_decide_eq_true hb) | (replace hb := of_decide_eq_false hb) | (replace hb := deNT hb) | (replace hb := deNN hb) | (replace hb := bnT hb) | (replace hb := bnF hb) | skip
    refine CW.seq ?_
    refine CW.region ?_
    refine RL.y rfl (y_asg rfl) ?_
    refine RL.y rfl (y_asg rfl) ?_
    refine RL.nil ?_
    refine Fin.next ?_
    refine CW.ret ?_
    refine Fin.thenRet ?_
    refine Fin.ret2 rfl (by conv => lhs; whnf) (by conv => lhs; whnf) ?_
    exact ⟨_, rfl, _, by rw [scC, if_neg hb], by rw [nfV, if_neg (fun h => hb h.1)]; exact OV.nil _ _ _, Ext.refl _⟩
  · with_reducible first | (replace hb := deNF hb) | (replace hb := of_decide_eq_true hb) | (replace hb := of_decide_eq_false hb) | (replace hb := deNT hb) | (replace hb := deNN hb) | (replace hb := bnT hb) | (replace hb := bnF hb) | skip
    refine CW.skip ?_
    refine Fin.next ?_
    refine CW.seq ?_
    refine CW.seq ?_
    refine CW.region ?_
    refine RL.y rfl (y_mov (v := .int _ _) rfl) ?_
    refine RL.y rfl (y_mov (v := .int _ _) rfl) ?_
    refine RL.y rfl (y_mov (by conv => lhs; whnf)) ?_
    refine RL.call rfl (l07Code_any hb.1 hc) ?_
    rintro r w1 ⟨rfl, rfl⟩
    refine RL.y rfl (y_not rfl) ?_
    refine RL.nil ?_
    refine Fin.next ?_
    refine CW.cond rfl rfl (fun hb2 => ?_) (fun hb2 => ?_)
    · with_reducible first | (replace hb2 := deNF hb2) | (replace hb2 := of_decide_eq_true hb2) | (replace hb2 := of_decide_eq_false hb2) | (replace hb2 := deNT hb2) | (replace hb2 := deNN hb2) | (replace hb2 := bnT hb2) | (replace hb2 := bnF hb2) | skip
      refine CW.seq ?_
      refine CW.region ?_
      refine RL.y rfl (y_asg rfl) ?_
      refine RL.y rfl (y_asg rfl) ?_
      refine RL.nil ?_
      refine Fin.next ?_
      refine CW.ret ?_
      refine Fin.thenRet ?_
      refine Fin.ret2 rfl (by conv => lhs; whnf) (by conv => lhs; whnf) ?_
      exact ⟨_, rfl, _, by rw [scC, if_pos hb, if_neg (fun h => hb2 (h xs (by simp)))], by rw [nfV, if_neg (fun h => hb2 h.2)]; exact OV.nil _ _ _, Ext.refl _⟩
    · with_reducible first | (replace hb2 := deNF hb2) | (replace hb2 := of_decide_eq_true hb2) | (replace hb2 := of_decide_eq_false hb2) | (replace hb2 := deNT hb2) | (replace hb2 := deNN hb2) | (replace hb2 := bnT hb2) | (replace hb2 := bnF hb2) | skip
      have hs1 := hb.1.1
      have hs2 := hb.1.2
      obtain ⟨sn, rfl⟩ := Int.eq_ofNat_of_zero_le (show 0 ≤ s by omega)
      obtain ⟨vn, rfl⟩ := Int.eq_ofNat_of_zero_le (show 0 ≤ v by omega)
      have hpos := fams_pos (s := sn) (v := vn) (d := d) (by omega)
      have hlen : ∀ r ∈ fams sn vn d, r.length = xs.length := fun r hr => by rw [fams_len hr]; have := hb2.1; omega
      have hnf : nfV sn vn d xs = near (fams sn vn d) xs := by rw [nfV, if_pos ⟨hb, hb2⟩]; rfl
      refine CW.skip ?_
      refine Fin.next ?_
      refine CW.seq ?_
      refine CW.region ?_
      refine RL.y rfl (y_mov (v := .int _ _) rfl) ?_
      refine RL.y rfl (y_mov (v := .int _ _) rfl) ?_
      refine RL.y rfl (y_mov (v := .int _ _) rfl) ?_
      refine RL.call rfl (l07Families_any hb.1) ?_
      rintro vo w1 ⟨ho, hE⟩
      obtain ⟨cs, ho⟩ := ho
      generalize fams sn vn d = rs at *
      have hxl := ho.rdc.le
      refine RL.y rfl (y_asg (by conv => lhs; whnf)) ?_
      refine RL.nil ?_
      refine Fin.next ?_
      refine CW.seq ?_
      refine CW.region ?_
      refine RL.y rfl (y_mov (by conv => lhs; whnf)) ?_
      refine RL.y rfl (y_ixa sT33 (eqw (ho.rdc.1)) (k := 0) (ho.rdc.lt hpos) rfl rfl) ?_
      refine RL.y rfl (y_load sc25 (eqw (ho.rdc.1)) (ho.rdc.at hpos) rfl) ?_
      refine RL.y rfl (y_asg (by conv => lhs; whnf)) ?_
      refine RL.nil ?_
      refine Fin.next ?_
      refine CW.seq ?_
      refine CW.seq ?_
      refine CW.region ?_
      refine RL.y rfl (y_asg rfl) ?_
      refine RL.nil ?_
      refine Fin.next ?_
      refine CW.block ?_
      refine CW.loop (fun q E w' => ∃ (k j : Nat) (bv : Value), q = (rs.length - 1) - k ∧ k ≤ rs.length - 1 ∧ agrees E [(3, c), (10, vo), (11, bv), (12, .int .i64 ((k : Int) + 1))] ∧ j < rs.length ∧ bv = cs.getD j undef ∧ rs.getD j [] = nearTo rs xs k ∧ Ext w1 w') _ (⟨0, 0, _, rfl, Nat.zero_le _, ⟨rfl, rfl, rfl, rfl, trivial⟩, hpos, rfl, rfl, Ext.refl _⟩) ?_
      · rintro q E w2 ⟨k, j, bv, rfl, hk, hag, hj, hbv, hnr, hE2⟩
        refine CW.re _ hag rfl ?_
        rw [show ((k : Int) + 1) = ((k + 1 : Nat) : Int) from by omega]
        refine CW.seq ?_
        refine CW.seq ?_
        refine CW.region ?_
        refine RL.y rfl (y_mov (v := .int _ _) rfl) ?_
        refine RL.y rfl (y_mov (by conv => lhs; whnf)) ?_
        refine RL.y rfl (y_len sT33 ho.rdc.1 ho.2.1 rfl) ?_
        refine RL.y rfl (y_lt rfl rfl) ?_
        refine RL.nil ?_
        refine Fin.next ?_
        refine CW.cond rfl rfl (fun hcl => ?_) (fun hcl => ?_)
        · with_reducible first | (replace hcl := deNF hcl) | (replace hcl := of_decide_eq_true hcl) | (replace hcl := of_decide_eq_false hcl) | (replace hcl := deNT hcl) | (replace hcl := deNN hcl) | (replace hcl := bnT hcl) | (replace hcl := bnF hcl) | skip
          have hlt : k + 1 < rs.length := by omega
          have ho2 := ho.ext hE2
          have hrow := ho2.rdc.2.2 j hj
          rw [← hbv, hnr] at hrow
          refine CW.skip ?_
          refine Fin.next ?_
          refine CW.seq ?_
          refine CW.block ?_
          refine CW.seq ?_
          refine CW.region ?_
          refine RL.y rfl (y_mov (by conv => lhs; whnf)) ?_
          refine RL.y rfl (y_mov (v := .int _ _) rfl) ?_
          refine RL.y rfl (y_ixa sT33 (eqw (ho2.rdc.1)) (k := k + 1) (ho2.rdc.lt hlt) rfl rfl) ?_
          refine RL.y rfl (y_load sc25 (eqw (ho2.rdc.1)) (ho2.rdc.at hlt) rfl) ?_
          refine RL.y rfl (y_mov (by conv => lhs; whnf)) ?_
          refine RL.call rfl (l03Difference_any (ho2.rdc.row hlt) (hc.ext (hE.trans hE2)) (hlen _ (List.getElem_mem hlt))) ?_
          rintro r w3 ⟨rfl, hE3⟩
          refine RL.y rfl (y_mov (by conv => lhs; whnf)) ?_
          refine RL.y rfl (y_mov (by conv => lhs; whnf)) ?_
          refine RL.call rfl (l03Difference_any (hrow.ext hE3) (hc.ext ((hE.trans hE2).trans hE3)) (hlen _ (nearTo_mem k (by omega)))) ?_
          rintro r w4 ⟨rfl, hE4⟩
          have hstep : nearTo rs xs (k + 1) = if dif rs[k + 1] xs < dif (nearTo rs xs k) xs then rs[k + 1] else nearTo rs xs k := by simp only [nearTo, getD_lt hlt]
          have hE24 := (hE2.trans hE3).trans hE4
          refine RL.y rfl (y_lt rfl rfl) ?_
          refine RL.nil ?_
          refine Fin.next ?_
          refine CW.cond rfl rfl (fun hc2 => ?_) (fun hc2 => ?_)
          · with_reducible first | (replace hc2 := deNF hc2) | (replace hc2 := of_decide_eq_true hc2) | (replace hc2 := of_decide_eq_false hc2) | (replace hc2 := deNT hc2) | (replace hc2 := deNN hc2) | (replace hc2 := bnT hc2) | (replace hc2 := bnF hc2) | skip
            have ho4 := ho2.ext (hE3.trans hE4)
            refine CW.region ?_
            refine RL.y rfl (y_mov (by conv => lhs; whnf)) ?_
            refine RL.y rfl (y_mov (v := .int _ _) rfl) ?_
            refine RL.y rfl (y_ixa sT33 (eqw (ho4.rdc.1)) (k := k + 1) (ho4.rdc.lt hlt) rfl rfl) ?_
            refine RL.y rfl (y_load sc25 (eqw (ho4.rdc.1)) (ho4.rdc.at hlt) rfl) ?_
            refine RL.y rfl (y_asg (by conv => lhs; whnf)) ?_
            refine RL.nil ?_
            refine Fin.blockNormal ?_
            refine Fin.next ?_
            refine CW.region ?_
            refine RL.y rfl (y_mov (v := .int _ _) rfl) ?_
            refine RL.y rfl (y_add rfl rfl (IntWalk.i64_in _ (by omega))) ?_
            refine RL.y rfl (y_asg (v := .int _ _) rfl) ?_
            refine RL.nil ?_
            refine Fin.le ?_
            exact ⟨rs.length - 1 - (k + 1), by omega, k + 1, k + 1, _, rfl, by omega, ⟨rfl, rfl, rfl, rfl, trivial⟩, hlt, rfl, by rw [hstep, if_pos (by omega), getD_lt hlt], hE24⟩
          · with_reducible first | (replace hc2 := deNF hc2) | (replace hc2 := of_decide_eq_true hc2) | (replace hc2 := of_decide_eq_false hc2) | (replace hc2 := deNT hc2) | (replace hc2 := deNN hc2) | (replace hc2 := bnT hc2) | (replace hc2 := bnF hc2) | skip
            refine CW.skip ?_
            refine Fin.blockNormal ?_
            refine Fin.next ?_
            refine CW.region ?_
            refine RL.y rfl (y_mov (v := .int _ _) rfl) ?_
            refine RL.y rfl (y_add rfl rfl (IntWalk.i64_in _ (by omega))) ?_
            refine RL.y rfl (y_asg (v := .int _ _) rfl) ?_
            refine RL.nil ?_
            refine Fin.le ?_
            exact ⟨rs.length - 1 - (k + 1), by omega, k + 1, j, bv, rfl, by omega, ⟨rfl, rfl, rfl, rfl, trivial⟩, hj, hbv, by rw [hstep, if_neg (by omega), hnr], hE24⟩
        · with_reducible first | (replace hcl := deNF hcl) | (replace hcl := of_decide_eq_true hcl) | (replace hcl := of_decide_eq_false hcl) | (replace hcl := deNT hcl) | (replace hcl := deNN hcl) | (replace hcl := bnT hcl) | (replace hcl := bnF hcl) | skip
          obtain rfl : k = rs.length - 1 := by omega
          have hrow := ((ho.ext hE2).2.2.1 j hj).1.ov
          rw [← hbv, hnr] at hrow
          refine CW.exit ?_
          refine Fin.thenExit ?_
          refine Fin.thenExit ?_
          refine Fin.blockHit ?_
          refine Fin.next ?_
          refine CW.seq ?_
          refine CW.region ?_
          refine RL.y rfl (y_mov (by conv => lhs; whnf)) ?_
          refine RL.y rfl (y_asg (by conv => lhs; whnf)) ?_
          refine RL.y rfl (y_asg rfl) ?_
          refine RL.nil ?_
          refine Fin.next ?_
          refine CW.ret ?_
          refine Fin.ret2 rfl (by conv => lhs; whnf) (by conv => lhs; whnf) ?_
          exact ⟨_, rfl, _, by rw [scC, if_pos hb, if_pos (by simpa using hb2)], by rw [hnf]; exact hrow, hE.trans hE2⟩
theorem implNearestFamily_any {w : World} {s v d : Int} {c : Value} {xs : List Int} (hc : SI w c xs) :
    Does Try.prog 35 #[.int .i64 s, .int .i64 v, .int .i64 d, c] w (fun r w' => ∃ v1, r = .tuple #[v1, .int .i64 (scC s v d [xs])] ∧ OV w' w.heap.size 2 v1 (ints (nfV s v d xs)) ∧ Ext w w') := by
  refine enter Try.func35 rfl 49 Try.ntmps35 rfl (by kernel_rfl) ?_
  refine CW.seq ?_
  refine CW.region ?_
  refine RL.y rfl (y_asg rfl) ?_
  refine RL.y rfl (y_asg rfl) ?_
  refine RL.nil ?_
  refine Fin.next ?_
  refine CW.seq ?_
  refine CW.seq ?_
  refine CW.region ?_
  refine RL.y rfl (y_mov (v := .int _ _) rfl) ?_
  refine RL.y rfl (y_mov (v := .int _ _) rfl) ?_
  refine RL.y rfl (y_mov (v := .int _ _) rfl) ?_
  refine RL.y rfl (y_mov (by conv => lhs; whnf)) ?_
  refine RL.lit1 rfl sT33 (slice_one hc) rfl (fun vl wl hol hEl hbl => ?_)
  refine RL.call rfl (sidesCode_any (rd_one hol.sv (hc.ext hEl))) ?_
  rintro r w1 ⟨rfl, rfl⟩
  refine RL.y rfl (y_asg (v := .int _ _) rfl) ?_
  refine RL.nil ?_
  refine Fin.next ?_
  refine CW.seq ?_
  refine CW.region ?_
  refine RL.y rfl (y_mov (v := .int _ _) rfl) ?_
  refine RL.y rfl (y_ne rfl rfl) ?_
  refine RL.nil ?_
  refine Fin.next ?_
  refine CW.cond rfl rfl (fun hb => ?_) (fun hb => ?_)
  · with_reducible first | (replace hb := deNF hb) | (replace hb := of_decide_eq_true hb) | (replace hb := of_decide_eq_false hb) | (replace hb := deNT hb) | (replace hb := deNN hb) | (replace hb := bnT hb) | (replace hb := bnF hb) | skip
    have hno : ¬ (dis s v d ∧ code s v xs) := fun h => hb (scC_zero.2 ⟨h.1, by simpa using h.2⟩)
    refine CW.seq ?_
    refine CW.region ?_
    refine RL.y rfl (y_mov (v := .int _ _) rfl) ?_
    refine RL.y rfl (y_asg rfl) ?_
    refine RL.y rfl (y_asg (v := .int _ _) rfl) ?_
    refine RL.nil ?_
    refine Fin.next ?_
    refine CW.ret ?_
    refine Fin.thenRet ?_
    refine Fin.ret2 rfl (by conv => lhs; whnf) (by conv => lhs; whnf) ?_
    exact ⟨_, rfl, _, rfl, by rw [nfV, if_neg hno]; exact OV.nil _ _ _, hEl⟩
  · with_reducible first | (replace hb := deNF hb) | (replace hb := of_decide_eq_true hb) | (replace hb := of_decide_eq_false hb) | (replace hb := deNT hb) | (replace hb := deNN hb) | (replace hb := bnT hb) | (replace hb := bnF hb) | skip
    obtain ⟨hb, hb2⟩ := scC_zero.1 hb
    replace hb2 : code s v xs := by simpa using hb2
    have hs1 := hb.1.1
    have hs2 := hb.1.2
    obtain ⟨sn, rfl⟩ := Int.eq_ofNat_of_zero_le (show 0 ≤ s by omega)
    obtain ⟨vn, rfl⟩ := Int.eq_ofNat_of_zero_le (show 0 ≤ v by omega)
    have hpos := fams_pos (s := sn) (v := vn) (d := d) (by omega)
    have hlen : ∀ r ∈ fams sn vn d, xs.length = r.length := fun r hr => by rw [fams_len hr]; have := hb2.1; omega
    have hnf : nfV sn vn d xs = near (fams sn vn d) xs := by rw [nfV, if_pos ⟨hb, hb2⟩]; rfl
    have hle : (fams sn vn d).length ≤ Int.toNat 10000 := Nat.le_trans (by rw [fams_eq]; exact famTo_le _ _ _ _) (pow_small10 hb.1)
    refine CW.skip ?_
    refine Fin.next ?_
    refine CW.seq ?_
    refine CW.region ?_
    refine RL.lit0 rfl sT25 (fun v0 w0 ho0 hE0 hb0 => ?_)
    refine RL.y rfl (y_asg (by conv => lhs; whnf)) ?_
    refine RL.y rfl (y_asg rfl) ?_
    refine RL.nil ?_
    refine Fin.next ?_
    refine CW.seq ?_
    refine CW.seq ?_
    refine CW.region ?_
    refine RL.y rfl (y_mov (v := .int _ _) rfl) ?_
    refine RL.y rfl (y_mov (v := .int _ _) rfl) ?_
    refine RL.y rfl (y_mov (v := .int _ _) rfl) ?_
    refine RL.call rfl (familiesOf_any hb.1 (by omega)) ?_
    rintro vo w1 ⟨ho, hE⟩
    rw [List.take_of_length_le hle] at ho
    obtain ⟨cs, ho⟩ := ho
    have hE1 := (hEl.trans hE0).trans hE
    generalize fams sn vn d = rs at *
    have hxl := ho.rdc.le
    refine RL.y rfl (y_len sT33 ho.rdc.1 ho.2.1 rfl) ?_
    refine RL.y rfl (y_mov rfl) ?_
    refine RL.nil ?_
    refine Fin.next ?_
    refine CW.block ?_
    refine CW.loop (fun q E w' => ∃ (k j : Nat) (bv : Value) (l : Int), q = rs.length - k ∧ k ≤ rs.length ∧ agrees E [(3, c), (29, vo), (30, .int .i64 rs.length), (11, bv), (12, .int .i64 l), (31, .int .i64 (k : Int))] ∧ (k = 0 → l = -1) ∧ (0 < k → j < rs.length ∧ bv = cs.getD j undef ∧ rs.getD j [] = nearTo rs xs (k - 1) ∧ l = (dif (nearTo rs xs (k - 1)) xs : Nat)) ∧ Ext w1 w') _ (⟨0, 0, _, -1, rfl, Nat.zero_le _, ⟨rfl, rfl, rfl, rfl, rfl, rfl, trivial⟩, fun _ => rfl, fun h => absurd h (Nat.lt_irrefl 0), Ext.refl _⟩) ?_
    · rintro q E w2 ⟨k, j, bv, l, rfl, hk, hag, hl0, hl1, hE2⟩
      refine CW.re _ hag rfl ?_
      refine CW.seq ?_
      refine CW.region ?_
      refine RL.y rfl (y_lt rfl rfl) ?_
      refine RL.nil ?_
      refine Fin.next ?_
      refine CW.seq ?_
      refine CW.cond rfl rfl (fun hcl => ?_) (fun hcl => ?_)
      · with_reducible first | (replace hcl := deNF hcl) | (replace hcl := of_decide_eq_true hcl) | (replace hcl := of_decide_eq_false hcl) | (replace hcl := deNT hcl) | (replace hcl := deNN hcl) | (replace hcl := bnT hcl) | (replace hcl := bnF hcl) | skip
        have hlt : k < rs.length := by omega
        have ho2 := ho.ext hE2
        have hlk := hlen _ (List.getElem_mem hlt)
        refine CW.skip ?_
        refine Fin.next ?_
        refine CW.seq ?_
        refine CW.block ?_
        refine CW.seq ?_
        refine CW.region ?_
        refine RL.y rfl (y_ixa sT33 (eqw (ho2.rdc.1)) (k := k) (ho2.rdc.lt hlt) rfl rfl) ?_
        refine RL.y rfl (y_load sc25 (eqw (ho2.rdc.1)) (ho2.rdc.at hlt) rfl) ?_
        refine RL.y rfl (y_asg (by conv => lhs; whnf)) ?_
        refine RL.nil ?_
        refine Fin.next ?_
        refine CW.seq ?_
        refine CW.region ?_
        refine RL.y rfl (y_mov (by conv => lhs; whnf)) ?_
        refine RL.y rfl (y_mov (by conv => lhs; whnf)) ?_
        refine RL.call rfl (differenceOf_any (hc.ext (hE1.trans hE2)) (ho2.rdc.row hlt) hlk) ?_
        rintro r w3 ⟨rfl, hE3⟩
        rw [dif_comm hlk]
        have hE23 := hE2.trans hE3
        refine RL.y rfl (y_asg (v := .int _ _) rfl) ?_
        refine RL.nil ?_
        refine Fin.next ?_
        refine CW.seq ?_
        refine CW.region ?_
        refine RL.y rfl (y_mov (v := .int _ _) rfl) ?_
        refine RL.y rfl (y_lt rfl rfl) ?_
        refine RL.y rfl (y_mov (v := .bool _) rfl) ?_
        refine RL.split (t := 40) rfl rfl (fun hn => ?_) (fun hn => ?_)
        · with_reducible first | (replace hn := deNF hn) | (replace hn := of_decide_eq_true hn) | (replace hn := of_decide_eq_false hn) | (replace hn := deNT hn) | (replace hn := deNN hn) | (replace hn := bnT hn) | (replace hn := bnF hn) | skip
          have hk0 : k = 0 := Classical.byContradiction fun h => by have := (hl1 (by omega)).2.2.2; omega
          subst hk0
          refine RL.pass (t := 40) rfl rfl rfl rfl ?_
          refine RL.pass (t := 40) rfl rfl rfl rfl ?_
          refine RL.pass (t := 40) rfl rfl rfl rfl ?_
          refine RL.y rfl (y_pickT (v := .bool _) rfl rfl) ?_
          refine RL.nil ?_
          refine Fin.next ?_
          refine CW.condT rfl rfl ?_
          refine CW.region ?_
          refine RL.y rfl (y_mov (by conv => lhs; whnf)) ?_
          refine RL.y rfl (y_mov (v := .int _ _) rfl) ?_
          refine RL.y rfl (y_asg (by conv => lhs; whnf)) ?_
          refine RL.y rfl (y_asg (v := .int _ _) rfl) ?_
          refine RL.nil ?_
          refine Fin.blockNormal ?_
          refine Fin.next ?_
          refine CW.region ?_
          refine RL.y rfl (y_add rfl rfl (IntWalk.i64_in _ (by omega))) ?_
          refine RL.y rfl (y_mov (v := .int _ _) rfl) ?_
          refine RL.nil ?_
          refine Fin.le ?_
          refine ⟨rs.length - (0 + 1), by omega, 0 + 1, 0, _, _, rfl, hlt, ⟨rfl, rfl, rfl, rfl, rfl, rfl, trivial⟩, fun h => absurd h (by omega), fun _ => ⟨hlt, rfl, by simp [nearTo], by simp [nearTo, List.getElem?_eq_getElem hlt]⟩, hE23⟩
        · with_reducible first | (replace hn := deNF hn) | (replace hn := of_decide_eq_true hn) | (replace hn := of_decide_eq_false hn) | (replace hn := deNT hn) | (replace hn := deNN hn) | (replace hn := bnT hn) | (replace hn := bnF hn) | skip
          have hkp : 0 < k := Classical.byContradiction fun h => by have := hl0 (by omega); omega
          obtain ⟨hj, hbv, hnr, rfl⟩ := hl1 hkp
          have hstep : nearTo rs xs (k + 1 - 1) = if dif rs[k] xs < dif (nearTo rs xs (k - 1)) xs then rs[k] else nearTo rs xs (k - 1) := by obtain ⟨m, rfl⟩ : ∃ m, k = m + 1 := ⟨k - 1, by omega⟩; simp only [Nat.add_sub_cancel, nearTo, getD_lt hlt]
          refine RL.take (t := 40) rfl rfl rfl ?_
          refine RL.y rfl (y_mov (v := .int _ _) rfl) ?_
          refine RL.take (t := 40) rfl rfl rfl ?_
          refine RL.y rfl (y_mov (v := .int _ _) rfl) ?_
          refine RL.take (t := 40) rfl rfl rfl ?_
          refine RL.y rfl (y_lt rfl rfl) ?_
          refine RL.y rfl (y_pickF (v := .bool _) rfl rfl) ?_
          refine RL.nil ?_
          refine Fin.next ?_
          refine CW.cond rfl rfl (fun hc2 => ?_) (fun hc2 => ?_)
          · with_reducible first | (replace hc2 := deNF hc2) | (replace hc2 := of_decide_eq_true hc2) | (replace hc2 := of_decide_eq_false hc2) | (replace hc2 := deNT hc2) | (replace hc2 := deNN hc2) | (replace hc2 := bnT hc2) | (replace hc2 := bnF hc2) | skip
            refine CW.region ?_
            refine RL.y rfl (y_mov (by conv => lhs; whnf)) ?_
            refine RL.y rfl (y_mov (v := .int _ _) rfl) ?_
            refine RL.y rfl (y_asg (by conv => lhs; whnf)) ?_
            refine RL.y rfl (y_asg (v := .int _ _) rfl) ?_
            refine RL.nil ?_
            refine Fin.blockNormal ?_
            refine Fin.next ?_
            refine CW.region ?_
            refine RL.y rfl (y_add rfl rfl (IntWalk.i64_in _ (by omega))) ?_
            refine RL.y rfl (y_mov (v := .int _ _) rfl) ?_
            refine RL.nil ?_
            refine Fin.le ?_
            exact ⟨rs.length - (k + 1), by omega, k + 1, k, _, _, rfl, hlt, ⟨rfl, rfl, rfl, rfl, rfl, rfl, trivial⟩, fun h => absurd h (by omega), fun _ => ⟨hlt, rfl, by rw [hstep, if_pos (by omega), getD_lt hlt], by rw [hstep, if_pos (by omega)]⟩, hE23⟩
          · with_reducible first | (replace hc2 := deNF hc2) | (replace hc2 := of_decide_eq_true hc2) | (replace hc2 := of_decide_eq_false hc2) | (replace hc2 := deNT hc2) | (replace hc2 := deNN hc2) | (replace hc2 := bnT hc2) | (replace hc2 := bnF hc2) | skip
            refine CW.skip ?_
            refine Fin.blockNormal ?_
            refine Fin.next ?_
            refine CW.region ?_
            refine RL.y rfl (y_add rfl rfl (IntWalk.i64_in _ (by omega))) ?_
            refine RL.y rfl (y_mov (v := .int _ _) rfl) ?_
            refine RL.nil ?_
            refine Fin.le ?_
            exact ⟨rs.length - (k + 1), by omega, k + 1, j, bv, _, rfl, hlt, ⟨rfl, rfl, rfl, rfl, rfl, rfl, trivial⟩, fun h => absurd h (by omega), fun _ => ⟨hj, hbv, by rw [hstep, if_neg (by omega), hnr], by rw [hstep, if_neg (by omega)]⟩, hE23⟩
      · with_reducible first | (replace hcl := deNF hcl) | (replace hcl := of_decide_eq_true hcl) | (replace hcl := of_decide_eq_false hcl) | (replace hcl := deNT hcl) | (replace hcl := deNN hcl) | (replace hcl := bnT hcl) | (replace hcl := bnF hcl) | skip
        obtain rfl : k = rs.length := by omega
        obtain ⟨hj, hbv, hnr, -⟩ := hl1 hpos
        have hrow := ((ho.ext hE2).2.2.1 j hj).1.ov
        rw [← hbv, hnr] at hrow
        refine CW.exit ?_
        refine Fin.thenExit ?_
        refine Fin.thenExit ?_
        refine Fin.blockHit ?_
        refine Fin.next ?_
        refine CW.seq ?_
        refine CW.region ?_
        refine RL.y rfl (y_mov (by conv => lhs; whnf)) ?_
        refine RL.y rfl (y_asg (by conv => lhs; whnf)) ?_
        refine RL.y rfl (y_asg rfl) ?_
        refine RL.nil ?_
        refine Fin.next ?_
        refine CW.ret ?_
        refine Fin.ret2 rfl (by conv => lhs; whnf) (by conv => lhs; whnf) ?_
        exact ⟨_, rfl, _, by rw [scC_zero.2 ⟨hb, by simpa using hb2⟩], by rw [hnf]; exact hrow.mono (by have := (hEl.trans hE0).size; omega), hE1.trans hE2⟩

theorem specAreApart_any {w : World} {s v d : Int} {c : Value} {rs : List (List Int)} (hc : RdSS w c rs) :
    Does Try.prog 26 #[.int .i64 s, .int .i64 v, .int .i64 d, c] w (fun r w' => r = .tuple #[.bool (aaV s v d rs), .int .i64 (aaC s v d rs)] ∧ Ext w w') := by
  obtain ⟨cs, hc⟩ := hc
  have hxl := hc.le
  refine enter Try.func26 rfl 50 Try.ntmps26 rfl (by kernel_rfl) ?_
  refine CW.seq ?_
  refine CW.region ?_
  refine RL.y rfl (y_asg rfl) ?_
  refine RL.y rfl (y_asg rfl) ?_
  refine RL.nil ?_
  refine Fin.next ?_
  refine CW.seq ?_
  refine CW.seq ?_
  refine CW.region ?_
  refine RL.y rfl (y_mov (v := .int _ _) rfl) ?_
  refine RL.y rfl (y_mov (v := .int _ _) rfl) ?_
  refine RL.y rfl (y_mov (v := .int _ _) rfl) ?_
  refine RL.call rfl (l07Distance_any) ?_
  rintro r w1 ⟨rfl, rfl⟩
  refine RL.y rfl (y_not rfl) ?_
  refine RL.nil ?_
  refine Fin.next ?_
  refine CW.cond rfl rfl (fun hb => ?_) (fun hb => ?_)
  · with_reducible first | (replace hb := deNF hb) | (replace hb := of_decide_eq_true hb) | (replace hb := of_decide_eq_false hb) | (replace hb := deNT hb) | (replace hb := deNN hb) | (replace hb := bnT hb) | (replace hb := bnF hb) | skip
    refine CW.seq ?_
    refine CW.region ?_
    refine RL.y rfl (y_asg rfl) ?_
    refine RL.y rfl (y_asg rfl) ?_
    refine RL.nil ?_
    refine Fin.next ?_
    refine CW.ret ?_
    refine Fin.thenRet ?_
    refine Fin.ret2 rfl (by conv => lhs; whnf) (by conv => lhs; whnf) ?_
    exact ⟨_, rfl, by simp [aaV, aaC, hb], Ext.refl _⟩
  · with_reducible first | (replace hb := deNF hb) | (replace hb := of_decide_eq_true hb) | (replace hb := of_decide_eq_false hb) | (replace hb := deNT hb) | (replace hb := deNN hb) | (replace hb := bnT hb) | (replace hb := bnF hb) | skip
    refine CW.skip ?_
    refine Fin.next ?_
    refine CW.seq ?_
    refine CW.seq ?_
    refine CW.region ?_
    refine RL.y rfl (y_asg rfl) ?_
    refine RL.nil ?_
    refine Fin.next ?_
    refine CW.block ?_
    refine CW.loop (fun m E w' => ∃ k : Nat, m = rs.length - k ∧ k ≤ rs.length ∧ agrees E [(0, .int .i64 s), (1, .int .i64 v), (2, .int .i64 d), (3, c), (10, .int .i64 (k : Int))] ∧ (∀ r ∈ rs.take k, code s v r) ∧ w = w') _ ⟨0, rfl, Nat.zero_le _, ⟨rfl, rfl, rfl, rfl, rfl, trivial⟩, by simp, rfl⟩ ?_
    · rintro m E w2 ⟨k, rfl, hkk, hagk, hall, rfl⟩
      refine CW.re _ hagk rfl ?_
      clear hagk
      refine CW.seq ?_
      refine CW.seq ?_
      refine CW.region ?_
      refine RL.y rfl (y_mov (v := .int _ _) rfl) ?_
      refine RL.y rfl (y_mov (by conv => lhs; whnf)) ?_
      refine RL.y rfl (y_len sT33 hc.1 hc.2.1 rfl) ?_
      refine RL.y rfl (y_lt rfl rfl) ?_
      refine RL.nil ?_
      refine Fin.next ?_
      refine CW.cond rfl rfl (fun hck => ?_) (fun hck => ?_)
      · with_reducible first | (replace hck := deNF hck) | (replace hck := of_decide_eq_true hck) | (replace hck := of_decide_eq_false hck) | (replace hck := deNT hck) | (replace hck := deNN hck) | (replace hck := bnT hck) | (replace hck := bnF hck) | skip
        have hltk : k < rs.length := by omega
        refine CW.skip ?_
        refine Fin.next ?_
        refine CW.seq ?_
        refine CW.block ?_
        refine CW.seq ?_
        refine CW.region ?_
        refine RL.y rfl (y_mov (v := .int _ _) rfl) ?_
        refine RL.y rfl (y_mov (v := .int _ _) rfl) ?_
        refine RL.y rfl (y_mov (by conv => lhs; whnf)) ?_
        refine RL.y rfl (y_mov (v := .int _ _) rfl) ?_
        refine RL.y rfl (y_ixa sT33 (eqw (hc.1)) (k := k) (hc.lt hltk) rfl rfl) ?_
        refine RL.y rfl (y_load sc25 (eqw (hc.1)) (hc.at hltk) rfl) ?_
        refine RL.call rfl (l07Code_any hb.1 (hc.row hltk)) ?_
        rintro r w3 ⟨rfl, rfl⟩
        refine RL.y rfl (y_not rfl) ?_
        refine RL.nil ?_
        refine Fin.next ?_
        refine CW.cond rfl rfl (fun hc2 => ?_) (fun hc2 => ?_)
        · with_reducible first | (replace hc2 := deNF hc2) | (replace hc2 := of_decide_eq_true hc2) | (replace hc2 := of_decide_eq_false hc2) | (replace hc2 := deNT hc2) | (replace hc2 := deNN hc2) | (replace hc2 := bnT hc2) | (replace hc2 := bnF hc2) | skip
          have hno : ¬ ∀ r ∈ rs, code s v r := fun h => hc2 (h _ (List.getElem_mem hltk))
          refine CW.seq ?_
          refine CW.region ?_
          refine RL.y rfl (y_asg rfl) ?_
          refine RL.y rfl (y_asg rfl) ?_
          refine RL.nil ?_
          refine Fin.next ?_
          refine CW.ret ?_
          refine Fin.blockRet ?_
          refine Fin.thenRet ?_
          refine Fin.thenRet ?_
          refine Fin.blockRet ?_
          refine Fin.thenRet ?_
          refine Fin.ret2 rfl (by conv => lhs; whnf) (by conv => lhs; whnf) ?_
          exact ⟨_, rfl, by simp [aaV, aaC, hb, hno], Ext.refl _⟩
        · with_reducible first | (replace hc2 := deNF hc2) | (replace hc2 := of_decide_eq_true hc2) | (replace hc2 := of_decide_eq_false hc2) | (replace hc2 := deNT hc2) | (replace hc2 := deNN hc2) | (replace hc2 := bnT hc2) | (replace hc2 := bnF hc2) | skip
          refine CW.skip ?_
          refine Fin.blockNormal ?_
          refine Fin.next ?_
          refine CW.region ?_
          refine RL.y rfl (y_mov (v := .int _ _) rfl) ?_
          refine RL.y rfl (y_add rfl rfl (IntWalk.i64_in _ (by omega))) ?_
          refine RL.y rfl (y_asg (v := .int _ _) rfl) ?_
          refine RL.nil ?_
          refine Fin.le ?_
          exact ⟨rs.length - (k + 1), by omega, k + 1, rfl, hltk, ⟨rfl, rfl, rfl, rfl, rfl, trivial⟩, all_snoc hltk hall hc2, rfl⟩
      · with_reducible first | (replace hck := deNF hck) | (replace hck := of_decide_eq_true hck) | (replace hck := of_decide_eq_false hck) | (replace hck := deNT hck) | (replace hck := deNN hck) | (replace hck := bnT hck) | (replace hck := bnF hck) | skip
        obtain rfl : rs.length = k := by omega
        rw [List.take_length] at hall
        have hcl : ∀ r ∈ rs, (r.length : Int) = s := fun r hr => (hall r hr).1
        refine CW.exit ?_
        refine Fin.thenExit ?_
        refine Fin.thenExit ?_
        refine Fin.blockHit ?_
        refine Fin.next ?_
        refine CW.seq ?_
        refine CW.seq ?_
        refine CW.region ?_
        refine RL.y rfl (y_mov (by conv => lhs; whnf)) ?_
        refine RL.y rfl (y_len sT33 hc.1 hc.2.1 rfl) ?_
        refine RL.y rfl (y_gt rfl rfl) ?_
        refine RL.nil ?_
        refine Fin.next ?_
        refine CW.cond rfl rfl (fun h60 => ?_) (fun h60 => ?_)
        · with_reducible first | (replace h60 := deNF h60) | (replace h60 := of_decide_eq_true h60) | (replace h60 := of_decide_eq_false h60) | (replace h60 := deNT h60) | (replace h60 := deNN h60) | (replace h60 := bnT h60) | (replace h60 := bnF h60) | skip
          have hno : ¬ rs.length ≤ 60 := by omega
          refine CW.seq ?_
          refine CW.region ?_
          refine RL.y rfl (y_asg rfl) ?_
          refine RL.y rfl (y_asg rfl) ?_
          refine RL.nil ?_
          refine Fin.next ?_
          refine CW.ret ?_
          refine Fin.thenRet ?_
          refine Fin.ret2 rfl (by conv => lhs; whnf) (by conv => lhs; whnf) ?_
          exact ⟨_, rfl, by unfold aaV aaC; rw [if_pos hb, if_pos hall, if_neg hno, decide_eq_false (fun h => hno h.2.2.1)], Ext.refl _⟩
        · with_reducible first | (replace h60 := deNF h60) | (replace h60 := of_decide_eq_true h60) | (replace h60 := of_decide_eq_false h60) | (replace h60 := deNT h60) | (replace h60 := deNN h60) | (replace h60 := bnT h60) | (replace h60 := bnF h60) | skip
          have hyes : rs.length ≤ 60 := by omega
          refine CW.skip ?_
          refine Fin.next ?_
          refine CW.seq ?_
          refine CW.seq ?_
          refine CW.region ?_
          refine RL.y rfl (y_asg rfl) ?_
          refine RL.nil ?_
          refine Fin.next ?_
          refine CW.block ?_
          refine CW.loop (fun m E w' => ∃ i : Nat, m = rs.length - i ∧ i ≤ rs.length ∧ agrees E [(0, .int .i64 s), (1, .int .i64 v), (2, .int .i64 d), (3, c), (11, .int .i64 (i : Int))] ∧ apartTo rs d i ∧ Ext w w') _ ⟨0, rfl, Nat.zero_le _, ⟨rfl, rfl, rfl, rfl, rfl, trivial⟩, (fun i hi => absurd hi (Nat.not_lt_zero i)), Ext.refl w⟩ ?_
          · rintro m E w4 ⟨i, rfl, hki, hagi, hap, hE4⟩
            refine CW.re _ hagi rfl ?_
            clear hagi
            refine CW.seq ?_
            refine CW.seq ?_
            refine CW.region ?_
            refine RL.y rfl (y_mov (v := .int _ _) rfl) ?_
            refine RL.y rfl (y_mov (by conv => lhs; whnf)) ?_
            refine RL.y rfl (y_len sT33 hc.1 hc.2.1 rfl) ?_
            refine RL.y rfl (y_lt rfl rfl) ?_
            refine RL.nil ?_
            refine Fin.next ?_
            refine CW.cond rfl rfl (fun hci => ?_) (fun hci => ?_)
            · with_reducible first | (replace hci := deNF hci) | (replace hci := of_decide_eq_true hci) | (replace hci := of_decide_eq_false hci) | (replace hci := deNT hci) | (replace hci := deNN hci) | (replace hci := bnT hci) | (replace hci := bnF hci) | skip
              have hlti : i < rs.length := by omega
              refine CW.skip ?_
              refine Fin.next ?_
              refine CW.seq ?_
              refine CW.block ?_
              refine CW.seq ?_
              refine CW.quietE mixed (by kernel_rfl) ?_
              refine QL.y rfl (y_mov (by conv => lhs; whnf)) ?_
              refine QL.y rfl (y_mov (v := .int _ _) rfl) ?_
              refine QL.y rfl (y_cutH sT33 (fun _ hC => (hc.1.ext hE4).ext hC) (by rw [hc.2.1]; omega) rfl rfl ) ?_
              refine QL.y rfl (y_mov (by conv => lhs; whnf)) ?_
              refine QL.y rfl (y_mov (v := .int _ _) rfl) ?_
              refine QL.y rfl (y_ixa sT33 (fun _ hC => (hc.1.ext hE4).ext hC) (k := i) (hc.lt hlti) rfl rfl) ?_
              refine QL.y rfl (y_load sc25 (fun _ hC => (hc.1.ext hE4).ext hC) (hc.at hlti) rfl) ?_
              refine QL.y rfl (y_mov (v := .int _ _) rfl) ?_
              refine QL.call rfl (fun _ hC => qc hC (l07Apart_any ⟨_, ((hc.ext hE4).ext hC).cut (Nat.le_of_lt hlti)⟩ (((hc.row hlti).ext hE4).ext hC) (fun r hr => by have h1 := hcl r (List.mem_of_mem_take hr); have h2 := hcl _ (List.getElem_mem hlti); omega))) ?_
              refine QL.y rfl (y_not rfl) ?_
              refine QL.nil (fun w5 hE5 => ?_)
              refine Fin.next ?_
              refine CW.cond rfl rfl (fun hc2 => ?_) (fun hc2 => ?_)
              · with_reducible first | (replace hc2 := deNF hc2) | (replace hc2 := of_decide_eq_true hc2) | (replace hc2 := of_decide_eq_false hc2) | (replace hc2 := deNT hc2) | (replace hc2 := deNN hc2) | (replace hc2 := bnT hc2) | (replace hc2 := bnF hc2) | skip
                have hno : ¬ apartTo rs d rs.length := fun h => hc2 (by have := h i hlti; rwa [getD_lt hlti] at this)
                refine CW.seq ?_
                refine CW.region ?_
                refine RL.y rfl (y_asg rfl) ?_
                refine RL.y rfl (y_asg rfl) ?_
                refine RL.nil ?_
                refine Fin.next ?_
                refine CW.ret ?_
                refine Fin.blockRet ?_
                refine Fin.thenRet ?_
                refine Fin.thenRet ?_
                refine Fin.blockRet ?_
                refine Fin.thenRet ?_
                refine Fin.ret2 rfl (by conv => lhs; whnf) (by conv => lhs; whnf) ?_
                exact ⟨_, rfl, by unfold aaV aaC; rw [if_pos hb, if_pos hall, if_pos hyes, decide_eq_false (fun h => hno h.2.2.2)], hE4.trans hE5⟩
              · with_reducible first | (replace hc2 := deNF hc2) | (replace hc2 := of_decide_eq_true hc2) | (replace hc2 := of_decide_eq_false hc2) | (replace hc2 := deNT hc2) | (replace hc2 := deNN hc2) | (replace hc2 := bnT hc2) | (replace hc2 := bnF hc2) | skip
                refine CW.skip ?_
                refine Fin.blockNormal ?_
                refine Fin.next ?_
                refine CW.region ?_
                refine RL.y rfl (y_mov (v := .int _ _) rfl) ?_
                refine RL.y rfl (y_add rfl rfl (IntWalk.i64_in _ (by omega))) ?_
                refine RL.y rfl (y_asg (v := .int _ _) rfl) ?_
                refine RL.nil ?_
                refine Fin.le ?_
                exact ⟨rs.length - (i + 1), by omega, i + 1, rfl, hlti, ⟨rfl, rfl, rfl, rfl, rfl, trivial⟩, apartTo_succ hap (by rwa [getD_lt hlti]), hE4.trans hE5⟩
            · with_reducible first | (replace hci := deNF hci) | (replace hci := of_decide_eq_true hci) | (replace hci := of_decide_eq_false hci) | (replace hci := deNT hci) | (replace hci := deNN hci) | (replace hci := bnT hci) | (replace hci := bnF hci) | skip
              obtain rfl : rs.length = i := by omega
              refine CW.exit ?_
              refine Fin.thenExit ?_
              refine Fin.thenExit ?_
              refine Fin.blockHit ?_
              refine Fin.next ?_
              refine CW.seq ?_
              refine CW.region ?_
              refine RL.y rfl (y_asg rfl) ?_
              refine RL.y rfl (y_asg rfl) ?_
              refine RL.nil ?_
              refine Fin.next ?_
              refine CW.ret ?_
              refine Fin.ret2 rfl (by conv => lhs; whnf) (by conv => lhs; whnf) ?_
              exact ⟨_, rfl, by unfold aaV aaC; rw [if_pos hb, if_pos hall, if_pos hyes, decide_eq_true ⟨hb, hall, hyes, hap⟩], hE4⟩
theorem implAreApart_any {w : World} {s v d : Int} {c : Value} {rs : List (List Int)} (hc : RdSS w c rs) :
    Does Try.prog 28 #[.int .i64 s, .int .i64 v, .int .i64 d, c] w (fun r w' => r = .tuple #[.bool (aaV s v d rs), .int .i64 (aaC s v d rs)] ∧ Ext w w') := by
  refine enter Try.func28 rfl 39 Try.ntmps28 rfl (by kernel_rfl) ?_
  refine CW.seq ?_
  refine CW.region ?_
  refine RL.y rfl (y_asg rfl) ?_
  refine RL.y rfl (y_asg rfl) ?_
  refine RL.nil ?_
  refine Fin.next ?_
  refine CW.seq ?_
  refine CW.seq ?_
  refine CW.region ?_
  refine RL.y rfl (y_mov (v := .int _ _) rfl) ?_
  refine RL.y rfl (y_mov (v := .int _ _) rfl) ?_
  refine RL.y rfl (y_mov (v := .int _ _) rfl) ?_
  refine RL.y rfl (y_mov (by conv => lhs; whnf)) ?_
  refine RL.call rfl (sidesCode_any hc) ?_
  rintro r w1 ⟨rfl, rfl⟩
  obtain ⟨cs, hc⟩ := hc
  have hxl := hc.le
  refine RL.y rfl (y_asg (v := .int _ _) rfl) ?_
  refine RL.nil ?_
  refine Fin.next ?_
  refine CW.seq ?_
  refine CW.region ?_
  refine RL.y rfl (y_mov (v := .int _ _) rfl) ?_
  refine RL.y rfl (y_ne rfl rfl) ?_
  refine RL.nil ?_
  refine Fin.next ?_
  refine CW.cond rfl rfl (fun hb => ?_) (fun hb => ?_)
  · with_reducible first | (replace hb := deNF hb) | (replace hb := of_decide_eq_true hb) | (replace hb := of_decide_eq_false hb) | (replace hb := deNT hb) | (replace hb := deNN hb) | (replace hb := bnT hb) | (replace hb := bnF hb) | skip
    have hno : ¬ (dis s v d ∧ ∀ r ∈ rs, code s v r) := fun h => hb (scC_zero.2 h)
    have hcd := aaC_no hno
    refine CW.seq ?_
    refine CW.region ?_
    refine RL.y rfl (y_mov (v := .int _ _) rfl) ?_
    refine RL.y rfl (y_asg rfl) ?_
    refine RL.y rfl (y_asg (v := .int _ _) rfl) ?_
    refine RL.nil ?_
    refine Fin.next ?_
    refine CW.ret ?_
    refine Fin.thenRet ?_
    refine Fin.ret2 rfl (by conv => lhs; whnf) (by conv => lhs; whnf) ?_
    exact ⟨_, rfl, by rw [hcd]; unfold aaV; rw [decide_eq_false (fun h => hno ⟨h.1, h.2.1⟩)], Ext.refl _⟩
  · with_reducible first | (replace hb := deNF hb) | (replace hb := of_decide_eq_true hb) | (replace hb := of_decide_eq_false hb) | (replace hb := deNT hb) | (replace hb := deNN hb) | (replace hb := bnT hb) | (replace hb := bnF hb) | skip
    obtain ⟨hb, hall⟩ := scC_zero.1 hb
    have hcl : ∀ r ∈ rs, (r.length : Int) = s := fun r hr => (hall r hr).1
    refine CW.skip ?_
    refine Fin.next ?_
    refine CW.seq ?_
    refine CW.seq ?_
    refine CW.region ?_
    refine RL.y rfl (y_mov (by conv => lhs; whnf)) ?_
    refine RL.y rfl (y_len sT33 hc.1 hc.2.1 rfl) ?_
    refine RL.y rfl (y_gt rfl rfl) ?_
    refine RL.nil ?_
    refine Fin.next ?_
    refine CW.cond rfl rfl (fun h60 => ?_) (fun h60 => ?_)
    · with_reducible first | (replace h60 := deNF h60) | (replace h60 := of_decide_eq_true h60) | (replace h60 := of_decide_eq_false h60) | (replace h60 := deNT h60) | (replace h60 := deNN h60) | (replace h60 := bnT h60) | (replace h60 := bnF h60) | skip
      have hno : ¬ rs.length ≤ 60 := by omega
      refine CW.seq ?_
      refine CW.region ?_
      refine RL.y rfl (y_asg rfl) ?_
      refine RL.y rfl (y_asg rfl) ?_
      refine RL.nil ?_
      refine Fin.next ?_
      refine CW.ret ?_
      refine Fin.thenRet ?_
      refine Fin.ret2 rfl (by conv => lhs; whnf) (by conv => lhs; whnf) ?_
      exact ⟨_, rfl, by unfold aaV aaC; rw [if_pos hb, if_pos hall, if_neg hno, decide_eq_false (fun h => hno h.2.2.1)], Ext.refl _⟩
    · with_reducible first | (replace h60 := deNF h60) | (replace h60 := of_decide_eq_true h60) | (replace h60 := of_decide_eq_false h60) | (replace h60 := deNT h60) | (replace h60 := deNN h60) | (replace h60 := bnT h60) | (replace h60 := bnF h60) | skip
      have hyes : rs.length ≤ 60 := by omega
      refine CW.skip ?_
      refine Fin.next ?_
      refine CW.seq ?_
      refine CW.seq ?_
      refine CW.region ?_
      refine RL.y rfl (y_mov (by conv => lhs; whnf)) ?_
      refine RL.y rfl (y_len sT33 hc.1 hc.2.1 rfl) ?_
      refine RL.y rfl (y_mov rfl) ?_
      refine RL.nil ?_
      refine Fin.next ?_
      refine CW.block ?_
      refine CW.loop (fun m E w' => ∃ i : Nat, m = rs.length - i ∧ i ≤ rs.length ∧ agrees E [(2, .int .i64 d), (3, c), (24, c), (25, .int .i64 rs.length), (26, .int .i64 (i : Int))] ∧ apartTo rs d i ∧ Ext w w') _ ⟨0, rfl, Nat.zero_le _, ⟨rfl, rfl, rfl, rfl, rfl, trivial⟩, (fun i hi => absurd hi (Nat.not_lt_zero i)), Ext.refl w⟩ ?_
      · rintro m E w4 ⟨i, rfl, hki, hagi, hap, hE4⟩
        refine CW.re _ hagi rfl ?_
        clear hagi
        refine CW.seq ?_
        refine CW.region ?_
        refine RL.y rfl (y_lt rfl rfl) ?_
        refine RL.nil ?_
        refine Fin.next ?_
        refine CW.seq ?_
        refine CW.cond rfl rfl (fun hci => ?_) (fun hci => ?_)
        · with_reducible first | (replace hci := deNF hci) | (replace hci := of_decide_eq_true hci) | (replace hci := of_decide_eq_false hci) | (replace hci := deNT hci) | (replace hci := deNN hci) | (replace hci := bnT hci) | (replace hci := bnF hci) | skip
          have hlti : i < rs.length := by omega
          refine CW.skip ?_
          refine Fin.next ?_
          refine CW.seq ?_
          refine CW.block ?_
          refine CW.seq ?_
          refine CW.region ?_
          refine RL.y rfl (y_mov (v := .int _ _) rfl) ?_
          refine RL.y rfl (y_ixa sT33 (eqw (hc.1.ext hE4)) (k := i) (hc.lt hlti) rfl rfl) ?_
          refine RL.y rfl (y_load sc25 (eqw (hc.1.ext hE4)) (hc.at hlti) rfl) ?_
          refine RL.y rfl (y_asg (v := .int _ _) rfl) ?_
          refine RL.y rfl (y_asg (by conv => lhs; whnf)) ?_
          refine RL.nil ?_
          refine Fin.next ?_
          refine CW.seq ?_
          refine CW.region ?_
          refine RL.y rfl (y_mov (by conv => lhs; whnf)) ?_
          refine RL.y rfl (y_mov (by conv => lhs; whnf)) ?_
          refine RL.y rfl (y_mov (v := .int _ _) rfl) ?_
          refine RL.y rfl (y_cutH sT33 (eqw (hc.1.ext hE4)) (by rw [hc.2.1]; omega) rfl rfl ) ?_
          refine RL.y rfl (y_mov (v := .int _ _) rfl) ?_
          refine RL.call rfl (isFar_any ⟨_, (hc.ext hE4).cut (Nat.le_of_lt hlti)⟩ ((hc.row hlti).ext hE4) (fun r hr => by have h1 := hcl r (List.mem_of_mem_take hr); have h2 := hcl _ (List.getElem_mem hlti); omega)) ?_
          rintro r w5 ⟨rfl, hE5⟩
          refine RL.y rfl (y_not rfl) ?_
          refine RL.nil ?_
          refine Fin.next ?_
          refine CW.cond rfl rfl (fun hc2 => ?_) (fun hc2 => ?_)
          · with_reducible first | (replace hc2 := deNF hc2) | (replace hc2 := of_decide_eq_true hc2) | (replace hc2 := of_decide_eq_false hc2) | (replace hc2 := deNT hc2) | (replace hc2 := deNN hc2) | (replace hc2 := bnT hc2) | (replace hc2 := bnF hc2) | skip
            have hno : ¬ apartTo rs d rs.length := fun h => hc2 (by have := h i hlti; rwa [getD_lt hlti] at this)
            refine CW.seq ?_
            refine CW.region ?_
            refine RL.y rfl (y_asg rfl) ?_
            refine RL.y rfl (y_asg rfl) ?_
            refine RL.nil ?_
            refine Fin.next ?_
            refine CW.ret ?_
            refine Fin.blockRet ?_
            refine Fin.thenRet ?_
            refine Fin.thenRet ?_
            refine Fin.blockRet ?_
            refine Fin.thenRet ?_
            refine Fin.ret2 rfl (by conv => lhs; whnf) (by conv => lhs; whnf) ?_
            exact ⟨_, rfl, by unfold aaV aaC; rw [if_pos hb, if_pos hall, if_pos hyes, decide_eq_false (fun h => hno h.2.2.2)], hE4.trans hE5⟩
          · with_reducible first | (replace hc2 := deNF hc2) | (replace hc2 := of_decide_eq_true hc2) | (replace hc2 := of_decide_eq_false hc2) | (replace hc2 := deNT hc2) | (replace hc2 := deNN hc2) | (replace hc2 := bnT hc2) | (replace hc2 := bnF hc2) | skip
            refine CW.skip ?_
            refine Fin.blockNormal ?_
            refine Fin.next ?_
            refine CW.region ?_
            refine RL.y rfl (y_add rfl rfl (IntWalk.i64_in _ (by omega))) ?_
            refine RL.y rfl (y_mov (v := .int _ _) rfl) ?_
            refine RL.nil ?_
            refine Fin.le ?_
            exact ⟨rs.length - (i + 1), by omega, i + 1, rfl, hlti, ⟨rfl, rfl, rfl, rfl, rfl, trivial⟩, apartTo_succ hap (by rwa [getD_lt hlti]), hE4.trans hE5⟩
        · with_reducible first | (replace hci := deNF hci) | (replace hci := of_decide_eq_true hci) | (replace hci := of_decide_eq_false hci) | (replace hci := deNT hci) | (replace hci := deNN hci) | (replace hci := bnT hci) | (replace hci := bnF hci) | skip
          obtain rfl : rs.length = i := by omega
          refine CW.exit ?_
          refine Fin.thenExit ?_
          refine Fin.thenExit ?_
          refine Fin.blockHit ?_
          refine Fin.next ?_
          refine CW.seq ?_
          refine CW.region ?_
          refine RL.y rfl (y_asg rfl) ?_
          refine RL.y rfl (y_asg rfl) ?_
          refine RL.nil ?_
          refine Fin.next ?_
          refine CW.ret ?_
          refine Fin.ret2 rfl (by conv => lhs; whnf) (by conv => lhs; whnf) ?_
          exact ⟨_, rfl, by unfold aaV aaC; rw [if_pos hb, if_pos hall, if_pos hyes, decide_eq_true ⟨hb, hall, hyes, hap⟩], hE4⟩
end Go.Proofs.Ytfpignajpihgnaa
