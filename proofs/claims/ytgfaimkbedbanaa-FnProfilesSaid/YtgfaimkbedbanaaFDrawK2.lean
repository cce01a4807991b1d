/-
  Drawn texts; the laws' own dice.
-/
import Derived.Test.YtgfaimkbedbanaaFDrawK
import Derived.Test.YtgfaimkbedbanaaFKey3
import Derived.Test.YtgfaimkbedbanaaStr
import Derived.Test.YtgfaimkbedbanaaAny
import Derived.Test.YtgfaimkbedbanaaTape
namespace Go.Proofs.Ytgfaimkbedbanaa
open B Go.RowKit

def signs : List UInt8 := [48, 35, 46, 47, 32, 97, 45, 10]

theorem l01Damage_any {w : World} {b : Nat} {l : List UInt8} (hs : Src w b) (hl : l.length ≤ 100) :
    Does Try.prog 60 #[.pointer (some ⟨b, 0, none⟩), .string ⟨l.toArray⟩] w (fun r w' => ∃ m : List UInt8, r = .string ⟨m.toArray⟩ ∧ m.length ≤ 101 ∧ Drawn w b w') := by
  have hbw := hs.lt
  refine enter Try.func60 rfl 48 Try.ntmps60 rfl (by kernel_rfl) ?_
  refine CW.seq ?_
  refine CW.region ?_
  refine RL.y rfl (y_asg rfl) ?_
  refine RL.nil ?_
  refine Fin.next ?_
  refine CW.seq ?_
  refine CW.region ?_
  refine RL.y rfl (y_mov (by conv => lhs; whnf)) ?_
  refine RL.y rfl (y_mov (v := .string _) rfl) ?_
  refine RL.y rfl (y_slen Try.underlying9 rfl) ?_
  refine RL.y rfl (y_add rfl rfl (IntWalk.i64_in _ (by omega))) ?_
  refine RL.call rfl (l01Next_any hs (by omega)) ?_
  rintro r w1 ⟨k, rfl, ⟨hk0, hk1, -⟩, hD1⟩
  replace hk1 := hk1 (by omega)
  obtain ⟨k, rfl⟩ := Int.eq_ofNat_of_zero_le hk0
  refine RL.y rfl (y_asg (v := .int _ _) rfl) ?_
  refine RL.nil ?_
  refine Fin.next ?_
  refine CW.seq ?_
  refine CW.seq ?_
  refine CW.region ?_
  refine RL.y rfl (y_mov (by conv => lhs; whnf)) ?_
  refine RL.call rfl (l01Next_any hD1.1 (by omega)) ?_
  rintro r w2 ⟨a, rfl, -, hD2⟩
  have hD12 := hD1.trans hD2
  have hs2 := hD12.size
  refine RL.nil ?_
  refine Fin.next ?_
  refine CW.block ?_
  refine CW.seq ?_
  refine CW.region ?_
  refine RL.y rfl (y_eq rfl rfl) ?_
  refine RL.y rfl (y_asg (v := .bool _) rfl) ?_
  refine RL.nil ?_
  refine Fin.next ?_
  refine CW.cond rfl rfl (fun h1 => ?_) (fun h1 => ?_)
  · with_reducible first | (replace h1 := deNF h1) | (replace h1 := of_decide_eq_true h1) | (replace h1 := of_decide_eq_false h1) | (replace h1 := deNT h1) | (replace h1 := deNN h1) | (replace h1 := bnT h1) | (replace h1 := bnF h1) | skip
    refine CW.seq ?_
    refine CW.region ?_
    refine RL.y rfl (y_mov (v := .string _) rfl) ?_
    refine RL.y rfl (y_mov (v := .int _ _) rfl) ?_
    refine RL.y rfl (y_scutH Try.underlying9 (h := k) (by omega) rfl rfl) ?_
    refine RL.y rfl (y_asg (v := .string _) rfl) ?_
    refine RL.nil ?_
    refine Fin.next ?_
    refine CW.ret ?_
    refine Fin.blockRet ?_
    refine Fin.thenRet ?_
    refine Fin.ret1 rfl (by conv => lhs; whnf) ?_
    exact ⟨_, rfl, l.take k, rfl, by simp; omega, hD12⟩
  · with_reducible first | (replace h1 := deNF h1) | (replace h1 := of_decide_eq_true h1) | (replace h1 := of_decide_eq_false h1) | (replace h1 := deNT h1) | (replace h1 := deNN h1) | (replace h1 := bnT h1) | (replace h1 := bnF h1) | skip
    refine CW.seq ?_
    refine CW.region ?_
    refine RL.y rfl (y_eq rfl rfl) ?_
    refine RL.y rfl (y_asg (v := .bool _) rfl) ?_
    refine RL.nil ?_
    refine Fin.next ?_
    refine CW.cond rfl rfl (fun h2 => ?_) (fun h2 => ?_)
    · with_reducible first | (replace h2 := deNF h2) | (replace h2 := of_decide_eq_true h2) | (replace h2 := of_decide_eq_false h2) | (replace h2 := deNT h2) | (replace h2 := deNN h2) | (replace h2 := bnT h2) | (replace h2 := bnF h2) | skip
      have hX2 : Drawn w2 b w2.drew := (Drawn.refl hD2.1).ext (Ext.drew _)
      have hsd := hX2.size
      refine CW.seq ?_
      refine CW.any (Drawn w2 b) [3, 5, 6, 7] mixed rfl (hX2) ?_
      refine AL.y 0 rfl rfl (by kernel_rfl) (by kernel_rfl) (by kernel_rfl) rfl (y_mov (v := .string _) rfl) ?_
      refine AL.y 1 rfl rfl (by kernel_rfl) (by kernel_rfl) (by kernel_rfl) rfl (y_mov (v := .int _ _) rfl) ?_
      refine AL.y 2 rfl rfl (by kernel_rfl) (by kernel_rfl) (by kernel_rfl) rfl (y_scutH Try.underlying9 (h := k) (by omega) rfl rfl) ?_
      refine AL.y 4 rfl rfl (by kernel_rfl) (by kernel_rfl) (by kernel_rfl) rfl (y_mov (by conv => lhs; whnf)) ?_
      refine AL.y 9 rfl rfl (by kernel_rfl) (by kernel_rfl) (by kernel_rfl) rfl (y_mov (v := .string _) rfl) ?_
      refine AL.y 10 rfl rfl (by kernel_rfl) (by kernel_rfl) (by kernel_rfl) rfl (y_mov (v := .int _ _) rfl) ?_
      refine AL.y 11 rfl rfl (by kernel_rfl) (by kernel_rfl) (by kernel_rfl) rfl (y_scutL Try.underlying9 (h := k) (by omega) rfl rfl) ?_
      refine AL.two (i := 3) (j := 5) (by kernel_rfl) rfl rfl rfl rfl ?_ ?_ 
      · intro hr hJ
        refine RL.lits (signs.map fun c => Value.string ⟨[c].toArray⟩) rfl sT74 rfl (by omega) (by simp [Value.oneCell']) rfl (fun vq w3 hoq hE3 hbq => ?_)
        have hX3 := hX2.ext hE3
        refine RL.nil ?_
        refine Fin.al hr hJ (.inr hX3) ?_
        refine AL.one (i := 5) (by kernel_rfl) rfl rfl ?_ 
        intro hr hJ
        refine RL.call rfl (l01Next_any hX3.1 (by omega)) ?_
        rintro r w4 ⟨z, rfl, ⟨hz0, hz1, -⟩, hD4⟩
        replace hz1 := hz1 (by omega)
        have hX4 := hX3.trans hD4
        have hoz := hoq.drawn hD4 (by omega)
        have hz : z.toNat < signs.length := by unfold signs; simp; omega
        refine RL.nil ?_
        refine Fin.al hr hJ (.inr hX4) ?_
        refine AL.one (i := 6) (by kernel_rfl) rfl rfl ?_ 
        intro hr hJ
        refine RL.y rfl (y_ixi sT74 (eqw (hoz.sv)) hz0 (by unfold signs; simp; omega) rfl rfl) ?_
        refine RL.nil ?_
        refine Fin.al hr hJ (.inr hX4) ?_
        refine AL.one (i := 7) (by kernel_rfl) rfl rfl ?_ 
        intro hr hJ
        refine RL.y rfl (y_load sc9 (eqw (hoz.sv)) ((show (signs.map fun c => Value.string ⟨[c].toArray⟩)[z.toNat]? = some (.string ⟨[signs[z.toNat]].toArray⟩) by simp [hz])) rfl) ?_
        refine RL.nil ?_
        refine Fin.al hr hJ (.inr hX4) ?_
        refine AL.y 8 rfl rfl (by kernel_rfl) (by kernel_rfl) (by kernel_rfl) rfl (y_scat (by simp; omega) rfl rfl) ?_
        refine AL.y 12 rfl rfl (by kernel_rfl) (by kernel_rfl) (by kernel_rfl) rfl (y_scat (by simp; omega) rfl rfl) ?_
        refine AL.y 13 rfl rfl (by kernel_rfl) (by kernel_rfl) (by kernel_rfl) rfl (y_asg (v := .string _) rfl) ?_
        refine AL.nil (by kernel_rfl) ?_
        refine Fin.next ?_
        refine CW.ret ?_
        refine Fin.blockRet ?_
        refine Fin.thenRet ?_
        refine Fin.ret1 rfl (by conv => lhs; whnf) ?_
        exact ⟨_, rfl, _, rfl, by simp; omega, hD12.trans hX4⟩
      · intro hr hJ
        refine RL.call rfl (l01Next_any hX2.1 (by omega)) ?_
        rintro r w3 ⟨z, rfl, ⟨hz0, hz1, -⟩, hD3⟩
        replace hz1 := hz1 (by omega)
        have hX3 := hX2.trans hD3
        have hs3 := hX3.size
        have hz : z.toNat < signs.length := by unfold signs; simp; omega
        refine RL.nil ?_
        refine Fin.al hr hJ (.inr hX3) ?_
        refine AL.one (i := 3) (by kernel_rfl) rfl rfl ?_ 
        intro hr hJ
        refine RL.lits (signs.map fun c => Value.string ⟨[c].toArray⟩) rfl sT74 rfl (by omega) (by simp [Value.oneCell']) rfl (fun vq w4 hoz hE4 hbq => ?_)
        have hX4 := hX3.ext hE4
        refine RL.nil ?_
        refine Fin.al hr hJ (.inr hX4) ?_
        refine AL.one (i := 6) (by kernel_rfl) rfl rfl ?_ 
        intro hr hJ
        refine RL.y rfl (y_ixi sT74 (eqw (hoz.sv)) hz0 (by unfold signs; simp; omega) rfl rfl) ?_
        refine RL.nil ?_
        refine Fin.al hr hJ (.inr hX4) ?_
        refine AL.one (i := 7) (by kernel_rfl) rfl rfl ?_ 
        intro hr hJ
        refine RL.y rfl (y_load sc9 (eqw (hoz.sv)) ((show (signs.map fun c => Value.string ⟨[c].toArray⟩)[z.toNat]? = some (.string ⟨[signs[z.toNat]].toArray⟩) by simp [hz])) rfl) ?_
        refine RL.nil ?_
        refine Fin.al hr hJ (.inr hX4) ?_
        refine AL.y 8 rfl rfl (by kernel_rfl) (by kernel_rfl) (by kernel_rfl) rfl (y_scat (by simp; omega) rfl rfl) ?_
        refine AL.y 12 rfl rfl (by kernel_rfl) (by kernel_rfl) (by kernel_rfl) rfl (y_scat (by simp; omega) rfl rfl) ?_
        refine AL.y 13 rfl rfl (by kernel_rfl) (by kernel_rfl) (by kernel_rfl) rfl (y_asg (v := .string _) rfl) ?_
        refine AL.nil (by kernel_rfl) ?_
        refine Fin.next ?_
        refine CW.ret ?_
        refine Fin.blockRet ?_
        refine Fin.thenRet ?_
        refine Fin.ret1 rfl (by conv => lhs; whnf) ?_
        exact ⟨_, rfl, _, rfl, by simp; omega, hD12.trans hX4⟩
    · with_reducible first | (replace h2 := deNF h2) | (replace h2 := of_decide_eq_true h2) | (replace h2 := of_decide_eq_false h2) | (replace h2 := deNT h2) | (replace h2 := deNN h2) | (replace h2 := bnT h2) | (replace h2 := bnF h2) | skip
      refine CW.seq ?_
      refine CW.region ?_
      refine RL.y rfl (y_eq rfl rfl) ?_
      refine RL.y rfl (y_asg (v := .bool _) rfl) ?_
      refine RL.nil ?_
      refine Fin.next ?_
      refine CW.cond rfl rfl (fun h3 => ?_) (fun h3 => ?_)
      · with_reducible first | (replace h3 := deNF h3) | (replace h3 := of_decide_eq_true h3) | (replace h3 := of_decide_eq_false h3) | (replace h3 := deNT h3) | (replace h3 := deNN h3) | (replace h3 := bnT h3) | (replace h3 := bnF h3) | skip
        refine CW.seq ?_
        refine CW.region ?_
        refine RL.y rfl (y_mov (v := .int _ _) rfl) ?_
        refine RL.y rfl (y_mov (v := .string _) rfl) ?_
        refine RL.y rfl (y_slen Try.underlying9 rfl) ?_
        refine RL.y rfl (y_lt rfl rfl) ?_
        refine RL.nil ?_
        refine Fin.next ?_
        refine CW.cond rfl rfl (fun h4 => ?_) (fun h4 => ?_)
        · with_reducible first | (replace h4 := deNF h4) | (replace h4 := of_decide_eq_true h4) | (replace h4 := of_decide_eq_false h4) | (replace h4 := deNT h4) | (replace h4 := deNN h4) | (replace h4 := bnT h4) | (replace h4 := bnF h4) | skip
          refine CW.seq ?_
          refine CW.quietE mixed (by kernel_rfl) ?_
          refine QL.y rfl (y_mov (v := .string _) rfl) ?_
          refine QL.y rfl (y_mov (v := .int _ _) rfl) ?_
          refine QL.y rfl (y_scutH Try.underlying9 (h := k) (by omega) rfl rfl) ?_
          refine QL.y rfl (y_mov (v := .string _) rfl) ?_
          refine QL.y rfl (y_mov (v := .int _ _) rfl) ?_
          refine QL.y rfl (y_add rfl rfl (IntWalk.i64_in _ (by omega))) ?_
          refine QL.y rfl (y_scutL Try.underlying9 (h := k + 1) (by omega) rfl rfl) ?_
          refine QL.y rfl (y_scat (by simp; omega) rfl rfl) ?_
          refine QL.y rfl (y_asg (v := .string _) rfl) ?_
          refine QL.nil (fun w3 hE3 => ?_)
          refine Fin.next ?_
          refine CW.ret ?_
          refine Fin.blockRet ?_
          refine Fin.thenRet ?_
          refine Fin.ret1 rfl (by conv => lhs; whnf) ?_
          exact ⟨_, rfl, _, rfl, by simp; omega, hD12.ext hE3⟩
        · with_reducible first | (replace h4 := deNF h4) | (replace h4 := of_decide_eq_true h4) | (replace h4 := of_decide_eq_false h4) | (replace h4 := deNT h4) | (replace h4 := deNN h4) | (replace h4 := bnT h4) | (replace h4 := bnF h4) | skip
          refine CW.skip ?_
          refine Fin.blockNormal ?_
          refine Fin.next ?_
          refine CW.seq ?_
          refine CW.region ?_
          refine RL.y rfl (y_mov (v := .string _) rfl) ?_
          refine RL.y rfl (y_asg (v := .string _) rfl) ?_
          refine RL.nil ?_
          refine Fin.next ?_
          refine CW.ret ?_
          refine Fin.ret1 rfl (by conv => lhs; whnf) ?_
          exact ⟨_, rfl, l, rfl, by omega, hD12⟩
      · with_reducible first | (replace h3 := deNF h3) | (replace h3 := of_decide_eq_true h3) | (replace h3 := of_decide_eq_false h3) | (replace h3 := deNT h3) | (replace h3 := deNN h3) | (replace h3 := bnT h3) | (replace h3 := bnF h3) | skip
        refine CW.skip ?_
        refine Fin.blockNormal ?_
        refine Fin.next ?_
        refine CW.seq ?_
        refine CW.region ?_
        refine RL.y rfl (y_mov (v := .string _) rfl) ?_
        refine RL.y rfl (y_asg (v := .string _) rfl) ?_
        refine RL.nil ?_
        refine Fin.next ?_
        refine CW.ret ?_
        refine Fin.ret1 rfl (by conv => lhs; whnf) ?_
        exact ⟨_, rfl, l, rfl, by omega, hD12⟩

theorem DrawReadProfile_any {w : World} {v : Value} {l : List UInt8} (hv : SV w v (byts l)) :
    Does Try.prog 37 #[v] w (fun r w' => ∃ m : List UInt8, r = .string ⟨m.toArray⟩ ∧ m.length ≤ 101 ∧ Ext w w') := by
  refine enter Try.func37 rfl 17 Try.ntmps37 rfl (by kernel_rfl) ?_
  refine CW.seq ?_
  refine CW.region ?_
  refine RL.y rfl (y_asg rfl) ?_
  refine RL.nil ?_
  refine Fin.next ?_
  refine CW.seq ?_
  refine CW.region ?_
  refine RL.y rfl (y_mov (by conv => lhs; whnf)) ?_
  refine RL.call rfl (l01From_any hv) ?_
  rintro r w1 ⟨rfl, hS1, hE1⟩
  refine RL.y rfl (y_asg (by conv => lhs; whnf)) ?_
  refine RL.nil ?_
  refine Fin.next ?_
  refine CW.seq ?_
  refine CW.region ?_
  refine RL.y rfl (y_mov (by conv => lhs; whnf)) ?_
  refine RL.call rfl (l01Next_any hS1 (by omega)) ?_
  rintro r w2 ⟨x, rfl, -, hD2⟩
  refine RL.call rfl (l06Text_any) ?_
  rintro r w3 ⟨rfl, hE3⟩
  have hX3 := hD2.ext hE3
  have hpl := ptx_len x 12
  refine RL.y rfl (y_asg (v := .string _) rfl) ?_
  refine RL.nil ?_
  refine Fin.next ?_
  refine CW.seq ?_
  refine CW.seq ?_
  refine CW.region ?_
  refine RL.y rfl (y_mov (by conv => lhs; whnf)) ?_
  refine RL.call rfl (l01Next_any hX3.1 (by omega)) ?_
  rintro r w4 ⟨z, rfl, -, hD4⟩
  have hX4 := hX3.trans hD4
  refine RL.y rfl (y_eq rfl rfl) ?_
  refine RL.nil ?_
  refine Fin.next ?_
  refine CW.cond rfl rfl (fun h1 => ?_) (fun h1 => ?_)
  · with_reducible first | (replace h1 := deNF h1) | (replace h1 := of_decide_eq_true h1) | (replace h1 := of_decide_eq_false h1) | (replace h1 := deNT h1) | (replace h1 := deNN h1) | (replace h1 := bnT h1) | (replace h1 := bnF h1) | skip
    refine CW.seq ?_
    refine CW.region ?_
    refine RL.y rfl (y_mov (by conv => lhs; whnf)) ?_
    refine RL.y rfl (y_mov (v := .string _) rfl) ?_
    refine RL.call rfl (l01Damage_any hX4.1 (by omega)) ?_
    rintro r w5 ⟨m, rfl, hm, hD5⟩
    refine RL.y rfl (y_asg (v := .string _) rfl) ?_
    refine RL.nil ?_
    refine Fin.next ?_
    refine CW.ret ?_
    refine Fin.thenRet ?_
    refine Fin.ret1 rfl (by conv => lhs; whnf) ?_
    exact ⟨_, rfl, m, rfl, hm, (hX4.trans hD5).own hE1 (Nat.le_refl _)⟩
  · with_reducible first | (replace h1 := deNF h1) | (replace h1 := of_decide_eq_true h1) | (replace h1 := of_decide_eq_false h1) | (replace h1 := deNT h1) | (replace h1 := deNN h1) | (replace h1 := bnT h1) | (replace h1 := bnF h1) | skip
    refine CW.skip ?_
    refine Fin.next ?_
    refine CW.seq ?_
    refine CW.region ?_
    refine RL.y rfl (y_mov (v := .string _) rfl) ?_
    refine RL.y rfl (y_asg (v := .string _) rfl) ?_
    refine RL.nil ?_
    refine Fin.next ?_
    refine CW.ret ?_
    refine Fin.ret1 rfl (by conv => lhs; whnf) ?_
    exact ⟨_, rfl, _, rfl, by omega, hX4.own hE1 (Nat.le_refl _)⟩

theorem roll_any {w : World} {v : Value} {l : List UInt8} (hv : SV w v (byts l)) :
    Does Try.prog 39 #[v, .int .u64 601] w (fun r w' => r = .pointer (some ⟨w.heap.size, 0, none⟩) ∧ (∃ h : Int, VR w' w.heap.size [v, .int .i64 0, .int .u64 h]) ∧ Ext w w') := by
  have hvl := SV.le hv
  rw [bytes_len] at hvl
  refine enter Try.func39 rfl 38 Try.ntmps39 rfl (by kernel_rfl) ?_
  refine CW.seq ?_
  refine CW.region ?_
  refine RL.y rfl (y_asg rfl) ?_
  refine RL.nil ?_
  refine Fin.next ?_
  refine CW.seq ?_
  refine CW.region ?_
  refine RL.y rfl (y_mov (by conv => lhs; whnf)) ?_
  refine RL.y rfl (y_mov (v := .int _ _) rfl) ?_
  refine RL.y rfl (y_mul rfl rfl (IntWalk.u64_in _ (by omega))) ?_
  refine RL.y rfl (y_mov (by conv => lhs; whnf)) ?_
  refine RL.y rfl (y_len sT42 hv (bytes_len _) rfl) ?_
  refine RL.y rfl (y_conv ⟨_, Try.underlying3⟩ Try.underlying51 rfl (IntWalk.u64_in _ (by omega))) ?_
  refine RL.y rfl (y_add rfl rfl (IntWalk.u64_in _ (by omega))) ?_
  refine RL.y rfl (y_build bd68 rfl (fill_one (slice_one hv) rfl rfl (fill_one rfl rfl rfl fill_nil))) ?_
  refine RL.box (cs := [v, .int .i64 0, .int .u64 (601 * 7919 + (l.length : Int))]) rfl rfl rfl (fun w1 hV1 hE1 => ?_)
  have hlow : ∀ x, v.ownBlock = some x → 0 < l.length → x < w.heap.size := fun x hx h0 => hv.lt (by rw [bytes_len]; exact h0) x hx
  refine RL.y rfl (y_asg (by conv => lhs; whnf)) ?_
  refine RL.nil ?_
  refine Fin.next ?_
  refine CW.seq ?_
  refine CW.seq ?_
  refine CW.region ?_
  refine RL.y rfl (y_asg rfl) ?_
  refine RL.nil ?_
  refine Fin.next ?_
  refine CW.block ?_
  refine CW.loop (fun m E w' => ∃ (k : Nat) (h : Int), l.length - k = m ∧ k ≤ l.length ∧ agrees E [(0, v), (5, .pointer (some ⟨w.heap.size, 0, none⟩)), (6, .int .i64 (k : Int))] ∧ VR w' w.heap.size [v, .int .i64 0, .int .u64 h] ∧ Ext w w') _ (⟨0, _, rfl, Nat.zero_le _, ⟨rfl, rfl, rfl, trivial⟩, hV1, hE1⟩) ?_
  · rintro m E w2 ⟨k, h, rfl, hk, hag, hV2, hE2⟩
    refine CW.re _ hag rfl ?_
    refine CW.seq ?_
    refine CW.seq ?_
    refine CW.region ?_
    refine RL.y rfl (y_mov (v := .int _ _) rfl) ?_
    refine RL.y rfl (y_mov (by conv => lhs; whnf)) ?_
    refine RL.y rfl (y_len sT42 hv (bytes_len _) rfl) ?_
    refine RL.y rfl (y_lt rfl rfl) ?_
    refine RL.nil ?_
    refine Fin.next ?_
    refine CW.cond rfl rfl (fun h1 => ?_) (fun h1 => ?_)
    · with_reducible first | (replace h1 := deNF h1) | (replace h1 := of_decide_eq_true h1) | (replace h1 := of_decide_eq_false h1) | (replace h1 := deNT h1) | (replace h1 := deNN h1) | (replace h1 := bnT h1) | (replace h1 := bnF h1) | skip
      have hlt : k < l.length := by omega
      have hbyte := UInt8.toNat_lt l[k]
      have hM0 : Mod w.heap.size (w.heap.size + 1) w2 w2.drew := (Ext.drew w2).mod _ _
      refine CW.skip ?_
      refine Fin.next ?_
      refine CW.seq ?_
      refine CW.block ?_
      refine CW.tape (Mod w.heap.size (w.heap.size + 1) w2) [15, 4] mixed (by kernel_rfl) (by kernel_rfl) (hM0) ?_
      refine TL.y rfl rfl (y_mov (by conv => lhs; whnf)) ?_
      refine TL.y rfl rfl (y_mov (by conv => lhs; whnf)) ?_
      refine TL.y rfl rfl (y_nil rfl) ?_
      refine TL.y rfl rfl (y_fa fa68_2 rfl rfl) ?_
      refine TL.yc rfl rfl (y_loadv sc51 (eqw (hV2.ext (Ext.drew _))) rfl rfl) ?_
      refine TL.y rfl rfl (y_mul rfl rfl (rfl)) ?_
      refine TL.y rfl rfl (y_mov (by conv => lhs; whnf)) ?_
      refine TL.y rfl rfl (y_mov (v := .int _ _) rfl) ?_
      refine TL.y rfl rfl (y_ixa sT42 (fun _ hC => hv.mod (hE2.then_mod hC (Nat.le_refl _) |>.mod 0 0) (fun _ _ _ => by omega)) (k := k) (bytes_lt hlt) rfl rfl) ?_
      refine TL.y rfl rfl (y_load sc5 (fun _ hC => hv.mod (hE2.then_mod hC (Nat.le_refl _) |>.mod 0 0) (fun _ _ _ => by omega)) (bytes_at hlt) rfl) ?_
      refine TL.y rfl rfl (y_conv ⟨_, Try.underlying5⟩ Try.underlying51 rfl (rfl)) ?_
      refine TL.y rfl rfl (y_add rfl rfl (rfl)) ?_
      refine TL.y rfl rfl (y_add rfl rfl (rfl)) ?_
      refine TL.y rfl rfl (y_nil rfl) ?_
      refine TL.y rfl rfl (y_fa fa68_2 rfl rfl) ?_
      refine TL.op rfl (fun hC => ?_)
      refine RL.storev so51 (hV2.ext (Ext.drew _)) (by simp) rfl rfl (rfl) (fun w3 hV3 hg3 => ?_)
      replace hV3 : VR w3 w.heap.size [v, .int .i64 0, .int .u64 _] := hV3
      have hE3 : Ext w w3 := (hE2.trans (Ext.drew _)).grown hg3 (fun b hb => by simp only [Option.some.injEq] at hb; omega)
      refine RL.nil ?_
      refine Fin.tl (((Ext.drew w2).mod _ _).trans (grown_mod hg3 (fun k hk => by simp only [Option.some.injEq] at hk; omega))) ?_
      refine TL.nil (fun hC => ?_)
      refine Fin.blockNormal ?_
      refine Fin.next ?_
      refine CW.region ?_
      refine RL.y rfl (y_mov (v := .int _ _) rfl) ?_
      refine RL.y rfl (y_add rfl rfl (IntWalk.i64_in _ (by omega))) ?_
      refine RL.y rfl (y_asg (v := .int _ _) rfl) ?_
      refine RL.nil ?_
      refine Fin.le ?_
      exact ⟨l.length - (k + 1), by omega, k + 1, _, rfl, hlt, ⟨rfl, rfl, rfl, trivial⟩, hV3, hE3⟩
    · with_reducible first | (replace h1 := deNF h1) | (replace h1 := of_decide_eq_true h1) | (replace h1 := of_decide_eq_false h1) | (replace h1 := deNT h1) | (replace h1 := deNN h1) | (replace h1 := bnT h1) | (replace h1 := bnF h1) | skip
      refine CW.exit ?_
      refine Fin.thenExit ?_
      refine Fin.thenExit ?_
      refine Fin.blockHit ?_
      refine Fin.next ?_
      refine CW.seq ?_
      refine CW.region ?_
      refine RL.y rfl (y_mov (by conv => lhs; whnf)) ?_
      refine RL.y rfl (y_asg (by conv => lhs; whnf)) ?_
      refine RL.nil ?_
      refine Fin.next ?_
      refine CW.ret ?_
      refine Fin.ret1 rfl (by conv => lhs; whnf) ?_
      exact ⟨_, rfl, rfl, ⟨_, hV2⟩, hE2⟩

theorem below_any {w : World} {b : Nat} {v : Value} {l : List UInt8} {sd : Int} (hV : VR w b [v, .int .i64 0, .int .u64 sd]) (hc : SV w v (byts l)) (hlow : ∀ x, v.ownBlock = some x → 0 < l.length → x < b) :
    Does Try.prog 40 #[.pointer (some ⟨b, 0, none⟩), .int .i64 4096] w (fun r w' => ∃ x : Int, r = .int .i64 x ∧ (0 ≤ x ∧ x < 4096) ∧ Mod b (b + 1) w w') := by
  have hcl := SV.le hc
  rw [bytes_len] at hcl
  refine enter Try.func40 rfl 56 Try.ntmps40 rfl (by kernel_rfl) ?_
  refine CW.seq ?_
  refine CW.region ?_
  refine RL.y rfl (y_asg rfl) ?_
  refine RL.nil ?_
  refine Fin.next ?_
  refine CW.seq ?_
  refine CW.region ?_
  refine RL.y rfl (y_mov (by conv => lhs; whnf)) ?_
  refine RL.y rfl (y_mov (by conv => lhs; whnf)) ?_
  refine RL.y rfl (y_nil rfl) ?_
  refine RL.y rfl (y_fa fa68_2 rfl rfl) ?_
  refine RL.y rfl (y_loadv sc51 (eqw (hV)) rfl rfl) ?_
  refine RL.y rfl (y_mul rfl rfl (rfl)) ?_
  refine RL.y rfl (y_add rfl rfl (rfl)) ?_
  refine RL.y rfl (y_nil rfl) ?_
  refine RL.y rfl (y_fa fa68_2 rfl rfl) ?_
  refine RL.storev so51 (hV) (by simp) rfl rfl (rfl) (fun w1 hV1 hg1 => ?_)
  replace hV1 : VR w1 b [v, .int .i64 0, .int .u64 (IntKind.u64.wrap (IntKind.u64.wrap (sd * 6364136223846793005) + 1442695040888963407))] := hV1
  have hr := u64_range (IntKind.u64.wrap (sd * 6364136223846793005) + 1442695040888963407)
  generalize IntKind.u64.wrap (IntKind.u64.wrap (sd * 6364136223846793005) + 1442695040888963407) = h1 at hV1 hr
  obtain ⟨n1, rfl⟩ := Int.eq_ofNat_of_zero_le hr.1
  have hc1 : SV w1 v (byts l) := hc.keep (fun x hx h0 => hg1.block x (hc.lt h0 x hx) (fun e => by have := hlow x hx (by rwa [bytes_len] at h0); simp only [Option.some.injEq] at e; omega))
  have hM1 : Mod b (b + 1) w w1 := grown_mod hg1 (fun k hk => by simp only [Option.some.injEq] at hk; omega)
  have hle : n1 / 2 ^ 33 &&& 16777215 ≤ 16777215 := Nat.and_le_right
  have hdl : n1 / 2 ^ 33 ≤ n1 := Nat.div_le_self _ _
  refine RL.nil ?_
  refine Fin.next ?_
  refine CW.seq ?_
  refine CW.region ?_
  refine RL.y rfl (y_mov (by conv => lhs; whnf)) ?_
  refine RL.y rfl (y_nil rfl) ?_
  refine RL.y rfl (y_fa fa68_2 rfl rfl) ?_
  refine RL.y rfl (y_loadv sc51 (eqw (hV1)) rfl rfl) ?_
  refine RL.y rfl (y_shr rfl rfl (by omega) (u64shr n1 33 (by omega))) ?_
  refine RL.y rfl (y_and rfl rfl (u64and (a := n1 / 2 ^ 33) (b := 16777215) (by omega) (by omega))) ?_
  obtain ⟨y, hy⟩ : ∃ y, y = n1 / 2 ^ 33 &&& 16777215 := ⟨_, rfl⟩
  rw [← hy] at hle
  rw [← hy]
  refine RL.y rfl (y_conv ⟨_, Try.underlying51⟩ Try.underlying2 rfl (IntWalk.i64_in _ (by omega))) ?_
  refine RL.y rfl (y_asg (v := .int _ _) rfl) ?_
  refine RL.nil ?_
  refine Fin.next ?_
  refine CW.seq ?_
  refine CW.seq ?_
  refine CW.quietE mixed (by kernel_rfl) ?_
  refine QL.y rfl (y_mov (by conv => lhs; whnf)) ?_
  refine QL.y rfl (y_nil rfl) ?_
  refine QL.y rfl (y_fa fa68_1 rfl rfl) ?_
  refine QL.y rfl (y_loadv sc3 (fun _ hC => (hV1).ext hC) rfl rfl) ?_
  refine QL.y rfl (y_mov (by conv => lhs; whnf)) ?_
  refine QL.y rfl (y_nil rfl) ?_
  refine QL.y rfl (y_fa fa68_0 rfl rfl) ?_
  refine QL.y rfl (y_loadv sc42 (fun _ hC => (hV1).ext hC) rfl rfl) ?_
  refine QL.y rfl (y_len sT42 hc1 (bytes_len _) rfl) ?_
  refine QL.y rfl (y_lt rfl rfl) ?_
  refine QL.nil (fun w2 hE2 => ?_)
  refine Fin.next ?_
  refine CW.cond rfl rfl (fun h2 => ?_) (fun h2 => ?_)
  · with_reducible first | (replace h2 := deNF h2) | (replace h2 := of_decide_eq_true h2) | (replace h2 := of_decide_eq_false h2) | (replace h2 := deNT h2) | (replace h2 := deNN h2) | (replace h2 := bnT h2) | (replace h2 := bnF h2) | skip
    have hl0 : 0 < l.length := by omega
    have hbyte := UInt8.toNat_lt l[0]
    refine CW.seq ?_
    refine CW.quietE mixed (by kernel_rfl) ?_
    refine QL.y rfl (y_mov (v := .int _ _) rfl) ?_
    refine QL.y rfl (y_mov (by conv => lhs; whnf)) ?_
    refine QL.y rfl (y_nil rfl) ?_
    refine QL.y rfl (y_fa fa68_0 rfl rfl) ?_
    refine QL.y rfl (y_loadv sc42 (fun _ hC => (hV1.ext hE2).ext hC) rfl rfl) ?_
    refine QL.y rfl (y_mov (by conv => lhs; whnf)) ?_
    refine QL.y rfl (y_nil rfl) ?_
    refine QL.y rfl (y_fa fa68_1 rfl rfl) ?_
    refine QL.y rfl (y_loadv sc3 (fun _ hC => (hV1.ext hE2).ext hC) rfl rfl) ?_
    refine QL.y rfl (y_ixa sT42 (fun _ hC => (hc1.ext hE2).ext hC) (k := 0) (bytes_lt hl0) rfl rfl) ?_
    refine QL.y rfl (y_load sc5 (fun _ hC => (hc1.ext hE2).ext hC) (bytes_at hl0) rfl) ?_
    refine QL.y rfl (y_conv ⟨_, Try.underlying5⟩ Try.underlying2 rfl (IntWalk.i64_in _ (by omega))) ?_
    refine QL.y rfl (y_add rfl rfl (IntWalk.i64_in _ (by omega))) ?_
    refine QL.y rfl (y_asg (v := .int _ _) rfl) ?_
    refine QL.nil (fun w3 hE3 => ?_)
    have hE23 := hE2.trans hE3
    refine Fin.next ?_
    refine CW.region ?_
    refine RL.y rfl (y_mov (by conv => lhs; whnf)) ?_
    refine RL.y rfl (y_mov (by conv => lhs; whnf)) ?_
    refine RL.y rfl (y_nil rfl) ?_
    refine RL.y rfl (y_fa fa68_1 rfl rfl) ?_
    refine RL.y rfl (y_loadv sc3 (eqw (hV1.ext hE23)) rfl rfl) ?_
    refine RL.y rfl (y_add rfl rfl (IntWalk.i64_in _ (by omega))) ?_
    refine RL.y rfl (y_nil rfl) ?_
    refine RL.y rfl (y_fa fa68_1 rfl rfl) ?_
    refine RL.storev so3 (hV1.ext hE23) (by simp) rfl rfl (rfl) (fun w4 hV4 hg4 => ?_)
    refine RL.nil ?_
    refine Fin.next ?_
    refine CW.seq ?_
    refine CW.region ?_
    refine RL.y rfl (y_mov (v := .int _ _) rfl) ?_
    refine RL.y rfl (y_mov (v := .int _ _) rfl) ?_
    refine RL.y rfl (y_rem rfl rfl (by omega) (IntWalk.rem_in _ _ (by omega))) ?_
    refine RL.y rfl (y_asg (v := .int _ _) rfl) ?_
    refine RL.nil ?_
    refine Fin.next ?_
    refine CW.ret ?_
    refine Fin.ret1 rfl (by conv => lhs; whnf) ?_
    exact ⟨_, rfl, _, rfl, ⟨(mod_range (by omega)).1, (mod_range (by omega)).2.1 (by omega)⟩, (hM1.trans (hE23.mod _ _)).trans (grown_mod hg4 (fun k hk => by simp only [Option.some.injEq] at hk; omega))⟩
  · with_reducible first | (replace h2 := deNF h2) | (replace h2 := of_decide_eq_true h2) | (replace h2 := of_decide_eq_false h2) | (replace h2 := deNT h2) | (replace h2 := deNN h2) | (replace h2 := bnT h2) | (replace h2 := bnF h2) | skip
    refine CW.skip ?_
    refine Fin.next ?_
    refine CW.seq ?_
    refine CW.region ?_
    refine RL.y rfl (y_mov (v := .int _ _) rfl) ?_
    refine RL.y rfl (y_mov (v := .int _ _) rfl) ?_
    refine RL.y rfl (y_rem rfl rfl (by omega) (IntWalk.rem_in _ _ (by omega))) ?_
    refine RL.y rfl (y_asg (v := .int _ _) rfl) ?_
    refine RL.nil ?_
    refine Fin.next ?_
    refine CW.ret ?_
    refine Fin.ret1 rfl (by conv => lhs; whnf) ?_
    exact ⟨_, rfl, _, rfl, ⟨(mod_range (by omega)).1, (mod_range (by omega)).2.1 (by omega)⟩, hM1.trans (hE2.mod _ _)⟩
end Go.Proofs.Ytgfaimkbedbanaa
