/-
  The helpers of the laws on slices of slices of int64.
-/
import Derived.Test.YtaepdknmagaokaaFInts
import Derived.Test.YtaepdknmagaokaaNest
namespace Go.Proofs.Ytaepdknmagaokaa
open B Go.RowKit

abbrev RdSS (w : World) (v : Value) (rs : List (List Int)) : Prop := RdN ints w v rs
abbrev RuSS (w : World) (B U : Nat) (v : Value) (rs : List (List Int)) : Prop := RuN ints w B U v rs
abbrev OwSS (w : World) (B U : Nat) (v : Value) (rs : List (List Int)) : Prop := OwN ints 2 29 w B U v rs
theorem OwSS.of {w : World} {B U : Nat} {v : Value} {rs : List (List Int)} (h : OwSS w B U v rs) : OwSS w B U v rs := h
theorem RuSS.of {w : World} {B U : Nat} {v : Value} {rs : List (List Int)} (h : RuSS w B U v rs) : RuSS w B U v rs := h

theorem szInt64S_any {w : World} {v : Value} {xs : List Int} {left : Int} (hv : SI w v xs) (h0 : 0 ≤ left) (h1 : left ≤ 1048576) :
    Does Try.prog 103 #[v, .int .i64 left] w (fun r w' => r = .int .i64 (szV xs.length left) ∧ w = w') := by
  have hxl := SI.le hv
  refine enter Try.func103 rfl 12 Try.ntmps103 rfl (by kernel_rfl) ?_
  refine CW.seq ?_
  refine CW.region ?_
  refine RL.y rfl (y_asg rfl) ?_
  refine RL.nil ?_
  refine Fin.next ?_
  refine CW.seq ?_
  refine CW.region ?_
  refine RL.y rfl (y_mov (v := .int _ _) rfl) ?_
  refine RL.y rfl (y_mov (by conv => lhs; whnf)) ?_
  refine RL.y rfl (y_len sT29 hv (ints_len _) rfl) ?_
  refine RL.y rfl (y_sub rfl rfl (IntWalk.i64_in _ (by omega))) ?_
  refine RL.y rfl (y_asg (v := .int _ _) rfl) ?_
  refine RL.nil ?_
  refine Fin.next ?_
  refine CW.seq ?_
  refine CW.seq ?_
  refine CW.region ?_
  refine RL.y rfl (y_mov (v := .int _ _) rfl) ?_
  refine RL.y rfl (y_lt rfl rfl) ?_
  refine RL.nil ?_
  refine Fin.next ?_
  refine CW.cond rfl rfl (fun hc => ?_) (fun hc => ?_)
  · with_reducible first | (replace hc := deNF hc) | (replace hc := of_decide_eq_true hc) | (replace hc := of_decide_eq_false hc) | (replace hc := deNT hc) | (replace hc := deNN hc) | (replace hc := bnT hc) | (replace hc := bnF hc) | skip
    refine CW.seq ?_
    refine CW.region ?_
    refine RL.y rfl (y_asg rfl) ?_
    refine RL.nil ?_
    refine Fin.next ?_
    refine CW.ret ?_
    refine Fin.thenRet ?_
    refine Fin.ret1 rfl (by conv => lhs; whnf) ?_
    exact ⟨_, rfl, by rw [szV_no hc], rfl⟩
  · with_reducible first | (replace hc := deNF hc) | (replace hc := of_decide_eq_true hc) | (replace hc := of_decide_eq_false hc) | (replace hc := deNT hc) | (replace hc := deNN hc) | (replace hc := bnT hc) | (replace hc := bnF hc) | skip
    refine CW.skip ?_
    refine Fin.next ?_
    refine CW.seq ?_
    refine CW.region ?_
    refine RL.y rfl (y_mov (v := .int _ _) rfl) ?_
    refine RL.y rfl (y_asg (v := .int _ _) rfl) ?_
    refine RL.nil ?_
    refine Fin.next ?_
    refine CW.ret ?_
    refine Fin.ret1 rfl (by conv => lhs; whnf) ?_
    exact ⟨_, rfl, by rw [szV_yes hc], rfl⟩

theorem szInt64SS_any {w : World} {v : Value} {rs : List (List Int)} {left : Int} (hv : RdSS w v rs) (h0 : 0 ≤ left) (h1 : left ≤ 1048576) :
    Does Try.prog 62 #[v, .int .i64 left] w (fun r w' => r = .int .i64 (szV (sizeN rs) left) ∧ w = w') := by
  obtain ⟨cs, hc⟩ := hv
  have hxl := hc.le
  refine enter Try.func62 rfl 27 Try.ntmps62 rfl (by kernel_rfl) ?_
  refine CW.seq ?_
  refine CW.region ?_
  refine RL.y rfl (y_asg rfl) ?_
  refine RL.nil ?_
  refine Fin.next ?_
  refine CW.seq ?_
  refine CW.region ?_
  refine RL.y rfl (y_mov (v := .int _ _) rfl) ?_
  refine RL.y rfl (y_mov (by conv => lhs; whnf)) ?_
  refine RL.y rfl (y_len sT26 hc.1 hc.2.1 rfl) ?_
  refine RL.y rfl (y_sub rfl rfl (IntWalk.i64_in _ (by omega))) ?_
  refine RL.y rfl (y_asg (v := .int _ _) rfl) ?_
  refine RL.nil ?_
  refine Fin.next ?_
  refine CW.seq ?_
  refine CW.seq ?_
  refine CW.region ?_
  refine RL.y rfl (y_mov (v := .int _ _) rfl) ?_
  refine RL.y rfl (y_lt rfl rfl) ?_
  refine RL.nil ?_
  refine Fin.next ?_
  refine CW.cond rfl rfl (fun hc1 => ?_) (fun hc1 => ?_)
  · with_reducible first | (replace hc1 := deNF hc1) | (replace hc1 := of_decide_eq_true hc1) | (replace hc1 := of_decide_eq_false hc1) | (replace hc1 := deNT hc1) | (replace hc1 := deNN hc1) | (replace hc1 := bnT hc1) | (replace hc1 := bnF hc1) | skip
    refine CW.seq ?_
    refine CW.region ?_
    refine RL.y rfl (y_asg rfl) ?_
    refine RL.nil ?_
    refine Fin.next ?_
    refine CW.ret ?_
    refine Fin.thenRet ?_
    refine Fin.ret1 rfl (by conv => lhs; whnf) ?_
    exact ⟨_, rfl, by rw [szV_no (by unfold sizeN; omega)], rfl⟩
  · with_reducible first | (replace hc1 := deNF hc1) | (replace hc1 := of_decide_eq_true hc1) | (replace hc1 := of_decide_eq_false hc1) | (replace hc1 := deNT hc1) | (replace hc1 := deNN hc1) | (replace hc1 := bnT hc1) | (replace hc1 := bnF hc1) | skip
    refine CW.skip ?_
    refine Fin.next ?_
    refine CW.seq ?_
    refine CW.seq ?_
    refine CW.region ?_
    refine RL.y rfl (y_asg rfl) ?_
    refine RL.nil ?_
    refine Fin.next ?_
    refine CW.block ?_
    refine CW.loop (fun m E w' => ∃ k : Nat, m = rs.length - k ∧ k ≤ rs.length ∧ agrees E [(0, v), (1, .int .i64 (left - rs.length - (tot (rs.take k) : Nat))), (5, .int .i64 (k : Int))] ∧ 0 ≤ left - rs.length - (tot (rs.take k) : Nat) ∧ w = w') _ ⟨0, rfl, Nat.zero_le _, ⟨rfl, by rw [show left - (rs.length : Int) - ((tot (rs.take 0) : Nat) : Int) = left - rs.length from by simp [tot]]; rfl, rfl, trivial⟩, (by simp [tot]; omega), rfl⟩ ?_
    · rintro m E w2 ⟨k, rfl, hkk, hagk, hge, rfl⟩
      refine CW.re _ hagk rfl ?_
      clear hagk
      refine CW.seq ?_
      refine CW.seq ?_
      refine CW.region ?_
      refine RL.y rfl (y_mov (v := .int _ _) rfl) ?_
      refine RL.y rfl (y_mov (by conv => lhs; whnf)) ?_
      refine RL.y rfl (y_len sT26 hc.1 hc.2.1 rfl) ?_
      refine RL.y rfl (y_lt rfl rfl) ?_
      refine RL.nil ?_
      refine Fin.next ?_
      refine CW.cond rfl rfl (fun hck => ?_) (fun hck => ?_)
      · with_reducible first | (replace hck := deNF hck) | (replace hck := of_decide_eq_true hck) | (replace hck := of_decide_eq_false hck) | (replace hck := deNT hck) | (replace hck := deNN hck) | (replace hck := bnT hck) | (replace hck := bnF hck) | skip
        have hltk : k < rs.length := by omega
        have ht := tot_snoc hltk
        have htt := tot_take rs (k + 1)
        refine CW.skip ?_
        refine Fin.next ?_
        refine CW.seq ?_
        refine CW.block ?_
        refine CW.seq ?_
        refine CW.region ?_
        refine RL.y rfl (y_mov (by conv => lhs; whnf)) ?_
        refine RL.y rfl (y_mov (v := .int _ _) rfl) ?_
        refine RL.y rfl (y_ixa sT26 (eqw (hc.1)) (k := k) (hc.lt hltk) rfl rfl) ?_
        refine RL.y rfl (y_load sc29 (eqw (hc.1)) (hc.at hltk) rfl) ?_
        refine RL.y rfl (y_mov (v := .int _ _) rfl) ?_
        refine RL.call rfl (szInt64S_any (hc.row hltk) hge (by omega)) ?_
        rintro r w3 ⟨rfl, rfl⟩
        refine RL.y rfl (y_asg (v := .int _ _) rfl) ?_
        refine RL.nil ?_
        refine Fin.next ?_
        refine CW.seq ?_
        refine CW.region ?_
        refine RL.y rfl (y_mov (v := .int _ _) rfl) ?_
        refine RL.y rfl (y_lt rfl rfl) ?_
        refine RL.nil ?_
        refine Fin.next ?_
        refine CW.cond rfl rfl (fun hc2 => ?_) (fun hc2 => ?_)
        · with_reducible first | (replace hc2 := deNF hc2) | (replace hc2 := of_decide_eq_true hc2) | (replace hc2 := of_decide_eq_false hc2) | (replace hc2 := deNT hc2) | (replace hc2 := deNN hc2) | (replace hc2 := bnT hc2) | (replace hc2 := bnF hc2) | skip
          have hno : left - rs.length - (tot (rs.take k) : Nat) - (rs[k].length : Nat) < 0 := Classical.byContradiction fun h => by rw [szV_yes h] at hc2; omega
          refine CW.seq ?_
          refine CW.region ?_
          refine RL.y rfl (y_asg rfl) ?_
          refine RL.nil ?_
          refine Fin.next ?_
          refine CW.ret ?_
          refine Fin.blockRet ?_
          refine Fin.thenRet ?_
          refine Fin.thenRet ?_
          refine Fin.blockRet ?_
          refine Fin.thenRet ?_
          refine Fin.ret1 rfl (by conv => lhs; whnf) ?_
          exact ⟨_, rfl, by rw [szV_no (by unfold sizeN; omega)], rfl⟩
        · with_reducible first | (replace hc2 := deNF hc2) | (replace hc2 := of_decide_eq_true hc2) | (replace hc2 := of_decide_eq_false hc2) | (replace hc2 := deNT hc2) | (replace hc2 := deNN hc2) | (replace hc2 := bnT hc2) | (replace hc2 := bnF hc2) | skip
          have hyes : ¬ left - rs.length - (tot (rs.take k) : Nat) - (rs[k].length : Nat) < 0 := fun h => by rw [szV_no h] at hc2; omega
          refine CW.skip ?_
          refine Fin.blockNormal ?_
          refine Fin.next ?_
          refine CW.region ?_
          refine RL.y rfl (y_mov (v := .int _ _) rfl) ?_
          refine RL.y rfl (y_add rfl rfl (IntWalk.i64_in _ (by omega))) ?_
          refine RL.y rfl (y_asg (v := .int _ _) rfl) ?_
          refine RL.nil ?_
          refine Fin.le ?_
          exact ⟨rs.length - (k + 1), by omega, k + 1, rfl, hltk, ⟨rfl, by rw [szV_yes hyes, show left - rs.length - (tot (rs.take k) : Nat) - (rs[k].length : Nat) = left - rs.length - (tot (rs.take (k + 1)) : Nat) from by omega]; rfl, rfl, trivial⟩, by omega, rfl⟩
      · with_reducible first | (replace hck := deNF hck) | (replace hck := of_decide_eq_true hck) | (replace hck := of_decide_eq_false hck) | (replace hck := deNT hck) | (replace hck := deNN hck) | (replace hck := bnT hck) | (replace hck := bnF hck) | skip
        obtain rfl : rs.length = k := by omega
        rw [List.take_length] at *
        refine CW.exit ?_
        refine Fin.thenExit ?_
        refine Fin.thenExit ?_
        refine Fin.blockHit ?_
        refine Fin.next ?_
        refine CW.seq ?_
        refine CW.region ?_
        refine RL.y rfl (y_mov (v := .int _ _) rfl) ?_
        refine RL.y rfl (y_asg (v := .int _ _) rfl) ?_
        refine RL.nil ?_
        refine Fin.next ?_
        refine CW.ret ?_
        refine Fin.ret1 rfl (by conv => lhs; whnf) ?_
        exact ⟨_, rfl, by rw [szV_yes (by unfold sizeN; omega)]; unfold sizeN; congr 1; omega, rfl⟩

theorem toInt64SS_any {w : World} {v : Value} {rs : List (List Int)} (hv : RdSS w v rs) (hlen : sizeN rs ≤ 1048576) :
    Does Try.prog 65 #[v] w (fun v' w' => OwSS w' w.heap.size w'.heap.size v' rs ∧ Ext w w') := by
  obtain ⟨cs, hc⟩ := hv
  have hxl := hc.le
  unfold sizeN at hlen
  refine enter Try.func65 rfl 23 Try.ntmps65 rfl (by kernel_rfl) ?_
  refine CW.seq ?_
  refine CW.region ?_
  refine RL.y rfl (y_asg rfl) ?_
  refine RL.nil ?_
  refine Fin.next ?_
  refine CW.seq ?_
  refine CW.region ?_
  refine RL.y rfl (y_mov (by conv => lhs; whnf)) ?_
  refine RL.y rfl (y_len sT26 hc.1 hc.2.1 rfl) ?_
  refine RL.make rfl sT26 (m := rs.length) (by omega) (by omega) rfl (fun vo w1 ho1 hE1 hb1 => ?_)
  refine RL.y rfl (y_asg (by conv => lhs; whnf)) ?_
  refine RL.nil ?_
  refine Fin.next ?_
  refine CW.seq ?_
  refine CW.seq ?_
  refine CW.region ?_
  refine RL.y rfl (y_asg rfl) ?_
  refine RL.nil ?_
  refine Fin.next ?_
  refine CW.block ?_
  refine CW.loop (fun m E w' => ∃ (k : Nat) (ds : List Value), m = rs.length - k ∧ k ≤ rs.length ∧ agrees E [(0, v), (3, vo), (4, .int .i64 (k : Int))] ∧ ds.length = k ∧ OV w' w.heap.size 29 vo (ds ++ List.replicate (rs.length - k) (.slice none 0 0)) ∧ (∀ i, i < k → OV w' w.heap.size 2 (ds.getD i undef) (ints (rs.getD i [])) ∧ NB (ds.getD i undef) vo) ∧ (∀ i j, i < j → j < k → NB (ds.getD i undef) (ds.getD j undef)) ∧ Ext w w' ∧ w.heap.size < w'.heap.size) _ (⟨0, [], rfl, Nat.zero_le _, ⟨rfl, rfl, rfl, trivial⟩, rfl, ho1, fun i hi => absurd hi (Nat.not_lt_zero i), fun i j _ hj => absurd hj (Nat.not_lt_zero j), hE1, (ho1.lt _ hb1).2⟩) ?_
  · rintro m E w2 ⟨k, ds, rfl, hk, hag, hdl, ho2, hrow, hap, hE2, hsz2⟩
    refine CW.re _ hag rfl ?_
    refine CW.seq ?_
    refine CW.seq ?_
    refine CW.region ?_
    refine RL.y rfl (y_mov (v := .int _ _) rfl) ?_
    refine RL.y rfl (y_mov (by conv => lhs; whnf)) ?_
    refine RL.y rfl (y_len sT26 hc.1 hc.2.1 rfl) ?_
    refine RL.y rfl (y_lt rfl rfl) ?_
    refine RL.nil ?_
    refine Fin.next ?_
    refine CW.cond rfl rfl (fun hck => ?_) (fun hck => ?_)
    · with_reducible first | (replace hck := deNF hck) | (replace hck := of_decide_eq_true hck) | (replace hck := of_decide_eq_false hck) | (replace hck := deNT hck) | (replace hck := deNN hck) | (replace hck := bnT hck) | (replace hck := bnF hck) | skip
      have hlt : k < rs.length := by omega
      refine CW.skip ?_
      refine Fin.next ?_
      refine CW.seq ?_
      refine CW.block ?_
      refine CW.region ?_
      refine RL.y rfl (y_mov (by conv => lhs; whnf)) ?_
      refine RL.y rfl (y_mov (v := .int _ _) rfl) ?_
      refine RL.y rfl (y_mov (by conv => lhs; whnf)) ?_
      refine RL.y rfl (y_mov (v := .int _ _) rfl) ?_
      refine RL.y rfl (y_ixa sT26 (eqw ((hc.1.ext hE2))) (k := k) (hc.lt hlt) rfl rfl) ?_
      refine RL.y rfl (y_load sc29 (eqw ((hc.1.ext hE2))) (hc.at hlt) rfl) ?_
      refine RL.call rfl (toInt64S_any ((hc.row hlt).ext hE2) (by have := tot_get hlt; omega)) ?_
      rintro vr w3 ⟨ho3, hE3, hb3⟩
      have ho2' := ho2.ext hE3
      refine RL.y rfl (y_ixa sT26 (eqw (ho2'.sv)) (k := k) (by simp; omega) rfl rfl) ?_
      refine RL.store sT26 ho2' (k := k) (x := vr) (by simp; omega) rfl rfl (slice_one ho3.sv) (fun w4 ho4 hg4 => ?_)
      rw [snoc_step hdl hlt] at ho4
      have hvo : ∀ b, vo.ownBlock = some b → b = w.heap.size := fun b hb => by rw [hb1] at hb; simpa using hb.symm
      have nbr : NB vr vo := fun b h1 h2 => by rw [hb3] at h1; have := hvo b h2; simp only [Option.some.injEq] at h1; omega
      have keep : ∀ {c : Value} {vs : List Value}, OV w3 w.heap.size 2 c vs → NB c vo → OV w4 w.heap.size 2 c vs := fun {c vs} h1 h2 => ov_other h1 hg4 h2
      refine RL.nil ?_
      refine Fin.blockNormal ?_
      refine Fin.next ?_
      refine CW.region ?_
      refine RL.y rfl (y_mov (v := .int _ _) rfl) ?_
      refine RL.y rfl (y_add rfl rfl (IntWalk.i64_in _ (by omega))) ?_
      refine RL.y rfl (y_asg (v := .int _ _) rfl) ?_
      refine RL.nil ?_
      refine Fin.le ?_
      exact ⟨rs.length - (k + 1), by omega, k + 1, ds ++ [vr], rfl, hlt, ⟨rfl, rfl, rfl, trivial⟩, by simp [hdl], ho4, rows_snoc (P := fun i c => OV w4 w.heap.size 2 c (ints (rs.getD i [])) ∧ NB c vo) hdl (fun i hi => ⟨keep ((hrow i hi).1.ext hE3) (hrow i hi).2, (hrow i hi).2⟩) ⟨by rw [getD_lt hlt]; exact keep (ho3.mono hE2.size) nbr, nbr⟩, apart_snoc hdl hap (fun i hi b h1 h2 => by have := ((hrow i hi).1.lt b h1).2; rw [hb3] at h2; simp only [Option.some.injEq] at h2; omega), (hE2.trans hE3).grown hg4 (fun b hb => by rw [hvo b hb]; omega), by have := hE3.size; have := hg4.size; omega⟩
    · with_reducible first | (replace hck := deNF hck) | (replace hck := of_decide_eq_true hck) | (replace hck := of_decide_eq_false hck) | (replace hck := deNT hck) | (replace hck := deNN hck) | (replace hck := bnT hck) | (replace hck := bnF hck) | skip
      obtain rfl : k = rs.length := by omega
      rw [Nat.sub_self, List.replicate_zero, List.append_nil] at ho2
      refine CW.exit ?_
      refine Fin.thenExit ?_
      refine Fin.thenExit ?_
      refine Fin.blockHit ?_
      refine Fin.next ?_
      refine CW.seq ?_
      refine CW.region ?_
      refine RL.y rfl (y_mov (by conv => lhs; whnf)) ?_
      refine RL.y rfl (y_asg (by conv => lhs; whnf)) ?_
      refine RL.nil ?_
      refine Fin.next ?_
      refine CW.ret ?_
      refine Fin.ret1 rfl (by conv => lhs; whnf) ?_
      exact ⟨_, rfl, ⟨ds, OU.of ho2 |> fun h => h, hdl, fun i hi => ⟨⟨(hrow i hi).1, Nat.le_refl _, fun b hb => ((hrow i hi).1.lt b hb).2⟩, (hrow i hi).2⟩, hap⟩, hE2⟩

theorem eqInt64SS_any {w : World} {v u : Value} {rs qs : List (List Int)} (hv : RdSS w v rs) (hu : RdSS w u qs) :
    Does Try.prog 68 #[v, u] w (fun r w' => r = .bool (decide (rs = qs)) ∧ Ext w w') := by
  obtain ⟨cs, hc⟩ := hv
  obtain ⟨ds, hd⟩ := hu
  have hxl := hc.le
  refine enter Try.func68 rfl 27 Try.ntmps68 rfl (by kernel_rfl) ?_
  refine CW.seq ?_
  refine CW.region ?_
  refine RL.y rfl (y_asg rfl) ?_
  refine RL.nil ?_
  refine Fin.next ?_
  refine CW.seq ?_
  refine CW.seq ?_
  refine CW.region ?_
  refine RL.y rfl (y_mov (by conv => lhs; whnf)) ?_
  refine RL.y rfl (y_len sT26 hc.1 hc.2.1 rfl) ?_
  refine RL.y rfl (y_mov (by conv => lhs; whnf)) ?_
  refine RL.y rfl (y_len sT26 hd.1 hd.2.1 rfl) ?_
  refine RL.y rfl (y_ne rfl rfl) ?_
  refine RL.nil ?_
  refine Fin.next ?_
  refine CW.cond rfl rfl (fun hcl => ?_) (fun hcl => ?_)
  · with_reducible first | (replace hcl := deNF hcl) | (replace hcl := of_decide_eq_true hcl) | (replace hcl := of_decide_eq_false hcl) | (replace hcl := deNT hcl) | (replace hcl := deNN hcl) | (replace hcl := bnT hcl) | (replace hcl := bnF hcl) | skip
    refine CW.seq ?_
    refine CW.region ?_
    refine RL.y rfl (y_asg rfl) ?_
    refine RL.nil ?_
    refine Fin.next ?_
    refine CW.ret ?_
    refine Fin.thenRet ?_
    refine Fin.ret1 rfl (by conv => lhs; whnf) ?_
    exact ⟨_, rfl, congrArg Value.bool (Eq.symm (decide_eq_false (fun e => by subst e; exact hcl rfl))), Ext.refl w⟩
  · with_reducible first | (replace hcl := deNF hcl) | (replace hcl := of_decide_eq_true hcl) | (replace hcl := of_decide_eq_false hcl) | (replace hcl := deNT hcl) | (replace hcl := deNN hcl) | (replace hcl := bnT hcl) | (replace hcl := bnF hcl) | skip
    have hl : rs.length = qs.length := by omega
    refine CW.skip ?_
    refine Fin.next ?_
    refine CW.seq ?_
    refine CW.seq ?_
    refine CW.region ?_
    refine RL.y rfl (y_asg rfl) ?_
    refine RL.nil ?_
    refine Fin.next ?_
    refine CW.block ?_
    refine CW.loop (fun m E w' => ∃ k : Nat, m = rs.length - k ∧ k ≤ rs.length ∧ agrees E [(0, v), (1, u), (5, .int .i64 (k : Int))] ∧ rs.take k = qs.take k ∧ Ext w w') _ ⟨0, rfl, Nat.zero_le _, ⟨rfl, rfl, rfl, trivial⟩, rfl, Ext.refl w⟩ ?_
    · rintro m E w2 ⟨k, rfl, hkk, hagk, htk, hE2⟩
      refine CW.re _ hagk rfl ?_
      clear hagk
      refine CW.seq ?_
      refine CW.seq ?_
      refine CW.region ?_
      refine RL.y rfl (y_mov (v := .int _ _) rfl) ?_
      refine RL.y rfl (y_mov (by conv => lhs; whnf)) ?_
      refine RL.y rfl (y_len sT26 hc.1 hc.2.1 rfl) ?_
      refine RL.y rfl (y_lt rfl rfl) ?_
      refine RL.nil ?_
      refine Fin.next ?_
      refine CW.cond rfl rfl (fun hck => ?_) (fun hck => ?_)
      · with_reducible first | (replace hck := deNF hck) | (replace hck := of_decide_eq_true hck) | (replace hck := of_decide_eq_false hck) | (replace hck := deNT hck) | (replace hck := deNN hck) | (replace hck := bnT hck) | (replace hck := bnF hck) | skip
        have hltk : k < rs.length := by omega
        have hlt' : k < qs.length := by omega
        refine CW.skip ?_
        refine Fin.next ?_
        refine CW.seq ?_
        refine CW.block ?_
        refine CW.seq ?_
        refine CW.quietE mixed (by kernel_rfl) ?_
        refine QL.y rfl (y_mov (by conv => lhs; whnf)) ?_
        refine QL.y rfl (y_mov (v := .int _ _) rfl) ?_
        refine QL.y rfl (y_ixa sT26 (fun _ hC => (hc.1.ext hE2).ext hC) (k := k) (hc.lt hltk) rfl rfl) ?_
        refine QL.y rfl (y_load sc29 (fun _ hC => (hc.1.ext hE2).ext hC) (hc.at hltk) rfl) ?_
        refine QL.y rfl (y_mov (by conv => lhs; whnf)) ?_
        refine QL.y rfl (y_mov (v := .int _ _) rfl) ?_
        refine QL.y rfl (y_ixa sT26 (fun _ hC => (hd.1.ext hE2).ext hC) (k := k) (hd.lt hlt') rfl rfl) ?_
        refine QL.y rfl (y_load sc29 (fun _ hC => (hd.1.ext hE2).ext hC) (hd.at hlt') rfl) ?_
        refine QL.call rfl (fun _ hC => qc hC (eqInt64S_any (((hc.row hltk).ext hE2).ext hC) (((hd.row hlt').ext hE2).ext hC))) ?_
        refine QL.y rfl (y_not rfl) ?_
        refine QL.nil (fun w3 hE3 => ?_)
        refine Fin.next ?_
        refine CW.cond rfl rfl (fun hc3 => ?_) (fun hc3 => ?_)
        · with_reducible first | (replace hc3 := deNF hc3) | (replace hc3 := of_decide_eq_true hc3) | (replace hc3 := of_decide_eq_false hc3) | (replace hc3 := deNT hc3) | (replace hc3 := deNN hc3) | (replace hc3 := bnT hc3) | (replace hc3 := bnF hc3) | skip
          refine CW.seq ?_
          refine CW.region ?_
          refine RL.y rfl (y_asg rfl) ?_
          refine RL.nil ?_
          refine Fin.next ?_
          refine CW.ret ?_
          refine Fin.blockRet ?_
          refine Fin.thenRet ?_
          refine Fin.thenRet ?_
          refine Fin.blockRet ?_
          refine Fin.thenRet ?_
          refine Fin.ret1 rfl (by conv => lhs; whnf) ?_
          exact ⟨_, rfl, congrArg Value.bool (Eq.symm (decide_eq_false (fun e => by subst e; exact hc3 rfl))), hE2.trans hE3⟩
        · with_reducible first | (replace hc3 := deNF hc3) | (replace hc3 := of_decide_eq_true hc3) | (replace hc3 := of_decide_eq_false hc3) | (replace hc3 := deNT hc3) | (replace hc3 := deNN hc3) | (replace hc3 := bnT hc3) | (replace hc3 := bnF hc3) | skip
          refine CW.skip ?_
          refine Fin.blockNormal ?_
          refine Fin.next ?_
          refine CW.region ?_
          refine RL.y rfl (y_mov (v := .int _ _) rfl) ?_
          refine RL.y rfl (y_add rfl rfl (IntWalk.i64_in _ (by omega))) ?_
          refine RL.y rfl (y_asg (v := .int _ _) rfl) ?_
          refine RL.nil ?_
          refine Fin.le ?_
          exact ⟨rs.length - (k + 1), by omega, k + 1, rfl, hltk, ⟨rfl, rfl, rfl, trivial⟩, by rw [List.take_succ_eq_append_getElem hltk, List.take_succ_eq_append_getElem hlt', htk, hc3], hE2.trans hE3⟩
      · with_reducible first | (replace hck := deNF hck) | (replace hck := of_decide_eq_true hck) | (replace hck := of_decide_eq_false hck) | (replace hck := deNT hck) | (replace hck := deNN hck) | (replace hck := bnT hck) | (replace hck := bnF hck) | skip
        obtain rfl : rs.length = k := by omega
        refine CW.exit ?_
        refine Fin.thenExit ?_
        refine Fin.thenExit ?_
        refine Fin.blockHit ?_
        refine Fin.next ?_
        refine CW.seq ?_
        refine CW.region ?_
        refine RL.y rfl (y_asg rfl) ?_
        refine RL.nil ?_
        refine Fin.next ?_
        refine CW.ret ?_
        refine Fin.ret1 rfl (by conv => lhs; whnf) ?_
        exact ⟨_, rfl, congrArg Value.bool (Eq.symm (decide_eq_true (by rw [List.take_length] at htk; rw [htk, hl, List.take_length]))), hE2⟩

theorem markInt64SS_any {w : World} {B U : Nat} {v : Value} {cs : List Value} {rs : List (List Int)} {k0 : Int} (hv : OwC ints 2 29 w B U v cs rs) (h0 : 0 ≤ k0) (hb : k0 + (tot rs : Nat) ≤ 4611686018427387904) :
    Does Try.prog 69 #[v, .int .i64 k0] w (fun r w' => r = .int .i64 (k0 + (tot rs : Nat)) ∧ OwC ints 2 29 w' B U v cs (marksN rs k0) ∧ Mod B U w w') := by
  have hxl := hv.rdc.le
  refine enter Try.func69 rfl 19 Try.ntmps69 rfl (by kernel_rfl) ?_
  refine CW.seq ?_
  refine CW.region ?_
  refine RL.y rfl (y_asg rfl) ?_
  refine RL.nil ?_
  refine Fin.next ?_
  refine CW.seq ?_
  refine CW.seq ?_
  refine CW.region ?_
  refine RL.y rfl (y_asg rfl) ?_
  refine RL.nil ?_
  refine Fin.next ?_
  refine CW.block ?_
  refine CW.loop (fun m E w' => ∃ k : Nat, m = rs.length - k ∧ k ≤ rs.length ∧ agrees E [(0, v), (1, .int .i64 (k0 + (tot (rs.take k) : Nat))), (5, .int .i64 (k : Int))] ∧ OwC ints 2 29 w' B U v cs (marksN (rs.take k) k0 ++ rs.drop k) ∧ Mod B U w w') _ ⟨0, rfl, Nat.zero_le _, ⟨rfl, by rw [show k0 + ((tot (rs.take 0) : Nat) : Int) = k0 from by simp [tot]]; rfl, rfl, trivial⟩, hv, Mod.refl B U w⟩ ?_
  · rintro m E w2 ⟨k, rfl, hkk, hagk, ho2, hM2⟩
    refine CW.re _ hagk rfl ?_
    clear hagk
    have hl2 : (marksN (rs.take k) k0 ++ rs.drop k).length = rs.length := by rw [List.length_append, marksN_len]; simp; omega
    refine CW.seq ?_
    refine CW.seq ?_
    refine CW.region ?_
    refine RL.y rfl (y_mov (v := .int _ _) rfl) ?_
    refine RL.y rfl (y_mov (by conv => lhs; whnf)) ?_
    refine RL.y rfl (y_len sT26 ho2.rdc.1 (ho2.rdc.2.1.trans hl2) rfl) ?_
    refine RL.y rfl (y_lt rfl rfl) ?_
    refine RL.nil ?_
    refine Fin.next ?_
    refine CW.cond rfl rfl (fun hck => ?_) (fun hck => ?_)
    · with_reducible first | (replace hck := deNF hck) | (replace hck := of_decide_eq_true hck) | (replace hck := of_decide_eq_false hck) | (replace hck := deNT hck) | (replace hck := deNN hck) | (replace hck := bnT hck) | (replace hck := bnF hck) | skip
      have hltk : k < rs.length := by omega
      have ht := tot_snoc hltk
      have htt := tot_take rs (k + 1)
      have hlt2 : k < (marksN (rs.take k) k0 ++ rs.drop k).length := by rw [hl2]; exact hltk
      have hat := marksN_at (k0 := k0) hltk
      have hrow := (ho2.2.2.1 k hlt2).1
      rw [hat] at hrow
      refine CW.skip ?_
      refine Fin.next ?_
      refine CW.seq ?_
      refine CW.block ?_
      refine CW.region ?_
      refine RL.y rfl (y_mov (by conv => lhs; whnf)) ?_
      refine RL.y rfl (y_mov (v := .int _ _) rfl) ?_
      refine RL.y rfl (y_ixa sT26 (eqw (ho2.rdc.1)) (k := k) (ho2.rdc.lt hlt2) rfl rfl) ?_
      refine RL.y rfl (y_load sc29 (eqw (ho2.rdc.1)) (ho2.rdc.at hlt2) rfl) ?_
      refine RL.y rfl (y_mov (v := .int _ _) rfl) ?_
      refine RL.call rfl (markInt64S_any hrow.ov (by omega) (by omega)) ?_
      rintro r w3 ⟨rfl, ho3, hg3⟩
      have hn := ho2.turn hlt2 hg3 ho3
      rw [marksN_step hltk] at hn
      refine RL.y rfl (y_asg (v := .int _ _) rfl) ?_
      refine RL.nil ?_
      refine Fin.blockNormal ?_
      refine Fin.next ?_
      refine CW.region ?_
      refine RL.y rfl (y_mov (v := .int _ _) rfl) ?_
      refine RL.y rfl (y_add rfl rfl (IntWalk.i64_in _ (by omega))) ?_
      refine RL.y rfl (y_asg (v := .int _ _) rfl) ?_
      refine RL.nil ?_
      refine Fin.le ?_
      exact ⟨rs.length - (k + 1), by omega, k + 1, rfl, hltk, ⟨rfl, by rw [show k0 + (tot (rs.take k) : Nat) + (rs[k].length : Nat) = k0 + (tot (rs.take (k + 1)) : Nat) from by omega]; rfl, rfl, trivial⟩, hn, hM2.trans (grown_mod hg3 hrow.lt)⟩
    · with_reducible first | (replace hck := deNF hck) | (replace hck := of_decide_eq_true hck) | (replace hck := of_decide_eq_false hck) | (replace hck := deNT hck) | (replace hck := deNN hck) | (replace hck := bnT hck) | (replace hck := bnF hck) | skip
      obtain rfl : rs.length = k := by omega
      rw [List.take_length, List.drop_length, List.append_nil] at ho2
      refine CW.exit ?_
      refine Fin.thenExit ?_
      refine Fin.thenExit ?_
      refine Fin.blockHit ?_
      refine Fin.next ?_
      refine CW.seq ?_
      refine CW.region ?_
      refine RL.y rfl (y_mov (v := .int _ _) rfl) ?_
      refine RL.y rfl (y_asg (v := .int _ _) rfl) ?_
      refine RL.nil ?_
      refine Fin.next ?_
      refine CW.ret ?_
      refine Fin.ret1 rfl (by conv => lhs; whnf) ?_
      exact ⟨_, rfl, by rw [List.take_length], ho2, hM2⟩

theorem heldInt64SS_any {w : World} {v : Value} {rs : List (List Int)} {k0 : Int} (hv : RdSS w v rs) (h0 : 0 ≤ k0) (hb : k0 + (tot rs : Nat) ≤ 4611686018427387904) :
    Does Try.prog 71 #[v, .int .i64 k0] w (fun r w' => r = .int .i64 (heldN rs k0) ∧ Ext w w') := by
  obtain ⟨cs, hc⟩ := hv
  have hxl := hc.le
  refine enter Try.func71 rfl 21 Try.ntmps71 rfl (by kernel_rfl) ?_
  refine CW.seq ?_
  refine CW.region ?_
  refine RL.y rfl (y_asg rfl) ?_
  refine RL.nil ?_
  refine Fin.next ?_
  refine CW.seq ?_
  refine CW.seq ?_
  refine CW.region ?_
  refine RL.y rfl (y_asg rfl) ?_
  refine RL.nil ?_
  refine Fin.next ?_
  refine CW.block ?_
  refine CW.loop (fun m E w' => ∃ (k : Nat) (x : Int), m = rs.length - k ∧ k ≤ rs.length ∧ agrees E [(0, v), (1, .int .i64 x), (5, .int .i64 (k : Int))] ∧ x = k0 + (tot (rs.take k) : Nat) ∧ heldN rs k0 = heldN (rs.drop k) x ∧ Ext w w') _ (⟨0, k0, rfl, Nat.zero_le _, ⟨rfl, rfl, rfl, trivial⟩, by simp [tot], rfl, Ext.refl w⟩) ?_
  · rintro m E w2 ⟨k, x, rfl, hk, hag, hx, hh, hE2⟩
    refine CW.re _ hag rfl ?_
    refine CW.seq ?_
    refine CW.seq ?_
    refine CW.region ?_
    refine RL.y rfl (y_mov (v := .int _ _) rfl) ?_
    refine RL.y rfl (y_mov (by conv => lhs; whnf)) ?_
    refine RL.y rfl (y_len sT26 hc.1 hc.2.1 rfl) ?_
    refine RL.y rfl (y_lt rfl rfl) ?_
    refine RL.nil ?_
    refine Fin.next ?_
    refine CW.cond rfl rfl (fun hc1 => ?_) (fun hc1 => ?_)
    · with_reducible first | (replace hc1 := deNF hc1) | (replace hc1 := of_decide_eq_true hc1) | (replace hc1 := of_decide_eq_false hc1) | (replace hc1 := deNT hc1) | (replace hc1 := deNN hc1) | (replace hc1 := bnT hc1) | (replace hc1 := bnF hc1) | skip
      have hlt : k < rs.length := by omega
      have ht := tot_snoc hlt
      have htt := tot_take rs (k + 1)
      rw [heldN_step hlt] at hh
      refine CW.skip ?_
      refine Fin.next ?_
      refine CW.seq ?_
      refine CW.block ?_
      refine CW.seq ?_
      refine CW.region ?_
      refine RL.y rfl (y_mov (by conv => lhs; whnf)) ?_
      refine RL.y rfl (y_mov (v := .int _ _) rfl) ?_
      refine RL.y rfl (y_ixa sT26 (eqw (hc.1.ext hE2)) (k := k) (hc.lt hlt) rfl rfl) ?_
      refine RL.y rfl (y_load sc29 (eqw (hc.1.ext hE2)) (hc.at hlt) rfl) ?_
      refine RL.y rfl (y_mov (v := .int _ _) rfl) ?_
      refine RL.call rfl (heldInt64S_any ((hc.row hlt).ext hE2) (by omega) (by omega)) ?_
      rintro r w3 ⟨rfl, hE3⟩
      have hrg := heldI_range rs[k] x
      refine RL.y rfl (y_asg (v := .int _ _) rfl) ?_
      refine RL.nil ?_
      refine Fin.next ?_
      refine CW.seq ?_
      refine CW.region ?_
      refine RL.y rfl (y_mov (v := .int _ _) rfl) ?_
      refine RL.y rfl (y_lt rfl rfl) ?_
      refine RL.nil ?_
      refine Fin.next ?_
      refine CW.cond rfl rfl (fun hc2 => ?_) (fun hc2 => ?_)
      · with_reducible first | (replace hc2 := deNF hc2) | (replace hc2 := of_decide_eq_true hc2) | (replace hc2 := of_decide_eq_false hc2) | (replace hc2 := deNT hc2) | (replace hc2 := deNN hc2) | (replace hc2 := bnT hc2) | (replace hc2 := bnF hc2) | skip
        rw [if_pos hc2] at hh
        refine CW.seq ?_
        refine CW.region ?_
        refine RL.y rfl (y_asg rfl) ?_
        refine RL.nil ?_
        refine Fin.next ?_
        refine CW.ret ?_
        refine Fin.blockRet ?_
        refine Fin.thenRet ?_
        refine Fin.thenRet ?_
        refine Fin.blockRet ?_
        refine Fin.thenRet ?_
        refine Fin.ret1 rfl (by conv => lhs; whnf) ?_
        exact ⟨_, rfl, by rw [hh], hE2.trans hE3⟩
      · with_reducible first | (replace hc2 := deNF hc2) | (replace hc2 := of_decide_eq_true hc2) | (replace hc2 := of_decide_eq_false hc2) | (replace hc2 := deNT hc2) | (replace hc2 := deNN hc2) | (replace hc2 := bnT hc2) | (replace hc2 := bnF hc2) | skip
        rw [if_neg hc2] at hh
        refine CW.skip ?_
        refine Fin.blockNormal ?_
        refine Fin.next ?_
        refine CW.region ?_
        refine RL.y rfl (y_mov (v := .int _ _) rfl) ?_
        refine RL.y rfl (y_add rfl rfl (IntWalk.i64_in _ (by omega))) ?_
        refine RL.y rfl (y_asg (v := .int _ _) rfl) ?_
        refine RL.nil ?_
        refine Fin.le ?_
        exact ⟨rs.length - (k + 1), by omega, k + 1, heldI rs[k] x, rfl, hlt, ⟨rfl, rfl, rfl, trivial⟩, by omega, hh, hE2.trans hE3⟩
    · with_reducible first | (replace hc1 := deNF hc1) | (replace hc1 := of_decide_eq_true hc1) | (replace hc1 := of_decide_eq_false hc1) | (replace hc1 := deNT hc1) | (replace hc1 := deNN hc1) | (replace hc1 := bnT hc1) | (replace hc1 := bnF hc1) | skip
      obtain rfl : k = rs.length := by omega
      rw [List.drop_length] at hh
      refine CW.exit ?_
      refine Fin.thenExit ?_
      refine Fin.thenExit ?_
      refine Fin.blockHit ?_
      refine Fin.next ?_
      refine CW.seq ?_
      refine CW.region ?_
      refine RL.y rfl (y_mov (v := .int _ _) rfl) ?_
      refine RL.y rfl (y_asg (v := .int _ _) rfl) ?_
      refine RL.nil ?_
      refine Fin.next ?_
      refine CW.ret ?_
      refine Fin.ret1 rfl (by conv => lhs; whnf) ?_
      exact ⟨_, rfl, by rw [hh]; rfl, hE2⟩

/-- 'mark' on data that a call has made. -/
theorem markSS_own {w : World} {B U : Nat} {v : Value} {rs : List (List Int)} {k0 : Int} (hv : OwSS w B U v rs) (h0 : 0 ≤ k0) (hb : k0 + (tot rs : Nat) ≤ 4611686018427387904) :
    Does Try.prog 69 #[v, .int .i64 k0] w (fun r w' => ∃ rs' k', r = .int .i64 k' ∧ OwSS w' B U v rs' ∧ heldN rs' k0 = k' ∧ k' = k0 + (tot rs : Nat) ∧ tot rs' = tot rs ∧ Mod B U w w') := by
  obtain ⟨cs, hv⟩ := hv
  exact (markInt64SS_any hv h0 hb).mono fun r w' ⟨hr, ho, hg⟩ => ⟨marksN rs k0, k0 + (tot rs : Nat), hr, ⟨cs, ho⟩, heldN_marks _ _ h0, rfl, marksN_tot _ _, hg⟩
end Go.Proofs.Ytaepdknmagaokaa
