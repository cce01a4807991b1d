/-
  Drawn buildings, and drawn texts of buildings.
-/
import Derived.Test.YtebegkegkdmbjaaDoorFRead2
import Derived.Test.YtebegkegkdmbjaaDoorFDrawB
import Derived.Test.YtebegkegkdmbjaaDoorRb3
namespace Go.Proofs.YtebegkegkdmbjaaDoor
open B Go.RowKit

def signs : List UInt8 := [48, 35, 46, 47, 32, 97, 45, 10]

theorem l01Damage_any {w : World} {b : Nat} {l : List UInt8} (hs : Src w b) (hl : l.length ≤ 1000) :
    Does Tryd.prog 39 #[.pointer (some ⟨b, 0, none⟩), .string ⟨l.toArray⟩] w (fun r w' => ∃ m : List UInt8, r = .string ⟨m.toArray⟩ ∧ m.length ≤ 1001 ∧ Drawn w b w') := by
  have hbw := hs.lt
  refine enter Tryd.func39 rfl 48 Tryd.ntmps39 rfl (by kernel_rfl) ?_
  refine CW.seq ?_
  refine CW.region ?_
  refine RL.y rfl (y_asg rfl) ?_
  refine RL.nil ?_
  refine Fin.next ?_
  refine CW.seq ?_
  refine CW.region ?_
  refine RL.y rfl (y_mov (by conv => lhs; whnf)) ?_
  refine RL.y rfl (y_mov (v := .string _) rfl) ?_
  refine RL.y rfl (y_slen Tryd.underlying9 rfl) ?_
  refine RL.y rfl (y_add rfl rfl (IntWalk.i64_in _ (by omega))) ?_
  refine RL.call rfl (l01Next_any hs (by omega)) ?_
  rintro r w1 ⟨k, rfl, ⟨hk0, hk1, -⟩, hD1⟩
  replace hk1 := hk1 (by omega)
  obtain ⟨k, rfl⟩ := Int.eq_ofNat_of_zero_le hk0
  refine RL.y rfl (y_asg (v := .int _ _) rfl) ?_
  refine RL.nil ?_
  refine Fin.next ?_
  refine CW.seq ?_
  refine CW.seq ?_
  refine CW.region ?_
  refine RL.y rfl (y_mov (by conv => lhs; whnf)) ?_
  refine RL.call rfl (l01Next_any hD1.1 (by omega)) ?_
  rintro r w2 ⟨a, rfl, -, hD2⟩
  have hD12 := hD1.trans hD2
  have hs2 := hD12.size
  refine RL.nil ?_
  refine Fin.next ?_
  refine CW.block ?_
  refine CW.seq ?_
  refine CW.region ?_
  refine RL.y rfl (y_eq rfl rfl) ?_
  refine RL.y rfl (y_asg (v := .bool _) rfl) ?_
  refine RL.nil ?_
  refine Fin.next ?_
  refine CW.cond rfl rfl (fun h1 => ?_) (fun h1 => ?_)
  · with_reducible first | (replace h1 := deNF h1) | (replace h1 := of_decide_eq_true h1) | (replace h1 := of_decide_eq_false h1) | (replace h1 := deNT h1) | (replace h1 := deNN h1) | (replace h1 := bnT h1) | (replace h1 := bnF h1) | skip
    refine CW.seq ?_
    refine CW.region ?_
    refine RL.y rfl (y_mov (v := .string _) rfl) ?_
    refine RL.y rfl (y_mov (v := .int _ _) rfl) ?_
    refine RL.y rfl (y_scutH Tryd.underlying9 (h := k) (by omega) rfl rfl) ?_
    refine RL.y rfl (y_asg (v := .string _) rfl) ?_
    refine RL.nil ?_
    refine Fin.next ?_
    refine CW.ret ?_
    refine Fin.blockRet ?_
    refine Fin.thenRet ?_
    refine Fin.ret1 rfl (by conv => lhs; whnf) ?_
    exact ⟨_, rfl, l.take k, rfl, by simp; omega, hD12⟩
  · with_reducible first | (replace h1 := deNF h1) | (replace h1 := of_decide_eq_true h1) | (replace h1 := of_decide_eq_false h1) | (replace h1 := deNT h1) | (replace h1 := deNN h1) | (replace h1 := bnT h1) | (replace h1 := bnF h1) | skip
    refine CW.seq ?_
    refine CW.region ?_
    refine RL.y rfl (y_eq rfl rfl) ?_
    refine RL.y rfl (y_asg (v := .bool _) rfl) ?_
    refine RL.nil ?_
    refine Fin.next ?_
    refine CW.cond rfl rfl (fun h2 => ?_) (fun h2 => ?_)
    · with_reducible first | (replace h2 := deNF h2) | (replace h2 := of_decide_eq_true h2) | (replace h2 := of_decide_eq_false h2) | (replace h2 := deNT h2) | (replace h2 := deNN h2) | (replace h2 := bnT h2) | (replace h2 := bnF h2) | skip
      have hX2 : Drawn w2 b w2.drew := (Drawn.refl hD2.1).ext (Ext.drew _)
      have hsd := hX2.size
      refine CW.seq ?_
      refine CW.any (Drawn w2 b) [3, 5, 6, 7] mixed rfl (hX2) ?_
      refine AL.y 0 rfl rfl (by kernel_rfl) (by kernel_rfl) (by kernel_rfl) rfl (y_mov (v := .string _) rfl) ?_
      refine AL.y 1 rfl rfl (by kernel_rfl) (by kernel_rfl) (by kernel_rfl) rfl (y_mov (v := .int _ _) rfl) ?_
      refine AL.y 2 rfl rfl (by kernel_rfl) (by kernel_rfl) (by kernel_rfl) rfl (y_scutH Tryd.underlying9 (h := k) (by omega) rfl rfl) ?_
      refine AL.y 4 rfl rfl (by kernel_rfl) (by kernel_rfl) (by kernel_rfl) rfl (y_mov (by conv => lhs; whnf)) ?_
      refine AL.y 9 rfl rfl (by kernel_rfl) (by kernel_rfl) (by kernel_rfl) rfl (y_mov (v := .string _) rfl) ?_
      refine AL.y 10 rfl rfl (by kernel_rfl) (by kernel_rfl) (by kernel_rfl) rfl (y_mov (v := .int _ _) rfl) ?_
      refine AL.y 11 rfl rfl (by kernel_rfl) (by kernel_rfl) (by kernel_rfl) rfl (y_scutL Tryd.underlying9 (h := k) (by omega) rfl rfl) ?_
      refine AL.two (i := 3) (j := 5) (by kernel_rfl) rfl rfl rfl rfl ?_ ?_ 
      · intro hr hJ
        refine RL.lits (signs.map fun c => Value.string ⟨[c].toArray⟩) rfl sT42 rfl (by omega) (by simp [Value.oneCell']) rfl (fun vq w3 hoq hE3 hbq => ?_)
        have hX3 := hX2.ext hE3
        refine RL.nil ?_
        refine Fin.al hr hJ (.inr hX3) ?_
        refine AL.one (i := 5) (by kernel_rfl) rfl rfl ?_ 
        intro hr hJ
        refine RL.call rfl (l01Next_any hX3.1 (by omega)) ?_
        rintro r w4 ⟨z, rfl, ⟨hz0, hz1, -⟩, hD4⟩
        replace hz1 := hz1 (by omega)
        have hX4 := hX3.trans hD4
        have hoz := hoq.drawn hD4 (by omega)
        have hz : z.toNat < signs.length := by unfold signs; simp; omega
        refine RL.nil ?_
        refine Fin.al hr hJ (.inr hX4) ?_
        refine AL.one (i := 6) (by kernel_rfl) rfl rfl ?_ 
        intro hr hJ
        refine RL.y rfl (y_ixi sT42 (eqw (hoz.sv)) hz0 (by unfold signs; simp; omega) rfl rfl) ?_
        refine RL.nil ?_
        refine Fin.al hr hJ (.inr hX4) ?_
        refine AL.one (i := 7) (by kernel_rfl) rfl rfl ?_ 
        intro hr hJ
        refine RL.y rfl (y_load sc9 (eqw (hoz.sv)) ((show (signs.map fun c => Value.string ⟨[c].toArray⟩)[z.toNat]? = some (.string ⟨[signs[z.toNat]].toArray⟩) by simp [hz])) rfl) ?_
        refine RL.nil ?_
        refine Fin.al hr hJ (.inr hX4) ?_
        refine AL.y 8 rfl rfl (by kernel_rfl) (by kernel_rfl) (by kernel_rfl) rfl (y_scat (by simp; omega) rfl rfl) ?_
        refine AL.y 12 rfl rfl (by kernel_rfl) (by kernel_rfl) (by kernel_rfl) rfl (y_scat (by simp; omega) rfl rfl) ?_
        refine AL.y 13 rfl rfl (by kernel_rfl) (by kernel_rfl) (by kernel_rfl) rfl (y_asg (v := .string _) rfl) ?_
        refine AL.nil (by kernel_rfl) ?_
        refine Fin.next ?_
        refine CW.ret ?_
        refine Fin.blockRet ?_
        refine Fin.thenRet ?_
        refine Fin.ret1 rfl (by conv => lhs; whnf) ?_
        exact ⟨_, rfl, _, rfl, by simp; omega, hD12.trans hX4⟩
      · intro hr hJ
        refine RL.call rfl (l01Next_any hX2.1 (by omega)) ?_
        rintro r w3 ⟨z, rfl, ⟨hz0, hz1, -⟩, hD3⟩
        replace hz1 := hz1 (by omega)
        have hX3 := hX2.trans hD3
        have hs3 := hX3.size
        have hz : z.toNat < signs.length := by unfold signs; simp; omega
        refine RL.nil ?_
        refine Fin.al hr hJ (.inr hX3) ?_
        refine AL.one (i := 3) (by kernel_rfl) rfl rfl ?_ 
        intro hr hJ
        refine RL.lits (signs.map fun c => Value.string ⟨[c].toArray⟩) rfl sT42 rfl (by omega) (by simp [Value.oneCell']) rfl (fun vq w4 hoz hE4 hbq => ?_)
        have hX4 := hX3.ext hE4
        refine RL.nil ?_
        refine Fin.al hr hJ (.inr hX4) ?_
        refine AL.one (i := 6) (by kernel_rfl) rfl rfl ?_ 
        intro hr hJ
        refine RL.y rfl (y_ixi sT42 (eqw (hoz.sv)) hz0 (by unfold signs; simp; omega) rfl rfl) ?_
        refine RL.nil ?_
        refine Fin.al hr hJ (.inr hX4) ?_
        refine AL.one (i := 7) (by kernel_rfl) rfl rfl ?_ 
        intro hr hJ
        refine RL.y rfl (y_load sc9 (eqw (hoz.sv)) ((show (signs.map fun c => Value.string ⟨[c].toArray⟩)[z.toNat]? = some (.string ⟨[signs[z.toNat]].toArray⟩) by simp [hz])) rfl) ?_
        refine RL.nil ?_
        refine Fin.al hr hJ (.inr hX4) ?_
        refine AL.y 8 rfl rfl (by kernel_rfl) (by kernel_rfl) (by kernel_rfl) rfl (y_scat (by simp; omega) rfl rfl) ?_
        refine AL.y 12 rfl rfl (by kernel_rfl) (by kernel_rfl) (by kernel_rfl) rfl (y_scat (by simp; omega) rfl rfl) ?_
        refine AL.y 13 rfl rfl (by kernel_rfl) (by kernel_rfl) (by kernel_rfl) rfl (y_asg (v := .string _) rfl) ?_
        refine AL.nil (by kernel_rfl) ?_
        refine Fin.next ?_
        refine CW.ret ?_
        refine Fin.blockRet ?_
        refine Fin.thenRet ?_
        refine Fin.ret1 rfl (by conv => lhs; whnf) ?_
        exact ⟨_, rfl, _, rfl, by simp; omega, hD12.trans hX4⟩
    · with_reducible first | (replace h2 := deNF h2) | (replace h2 := of_decide_eq_true h2) | (replace h2 := of_decide_eq_false h2) | (replace h2 := deNT h2) | (replace h2 := deNN h2) | (replace h2 := bnT h2) | (replace h2 := bnF h2) | skip
      refine CW.seq ?_
      refine CW.region ?_
      refine RL.y rfl (y_eq rfl rfl) ?_
      refine RL.y rfl (y_asg (v := .bool _) rfl) ?_
      refine RL.nil ?_
      refine Fin.next ?_
      refine CW.cond rfl rfl (fun h3 => ?_) (fun h3 => ?_)
      · with_reducible first | (replace h3 := deNF h3) | (replace h3 := of_decide_eq_true h3) | (replace h3 := of_decide_eq_false h3) | (replace h3 := deNT h3) | (replace h3 := deNN h3) | (replace h3 := bnT h3) | (replace h3 := bnF h3) | skip
        refine CW.seq ?_
        refine CW.region ?_
        refine RL.y rfl (y_mov (v := .int _ _) rfl) ?_
        refine RL.y rfl (y_mov (v := .string _) rfl) ?_
        refine RL.y rfl (y_slen Tryd.underlying9 rfl) ?_
        refine RL.y rfl (y_lt rfl rfl) ?_
        refine RL.nil ?_
        refine Fin.next ?_
        refine CW.cond rfl rfl (fun h4 => ?_) (fun h4 => ?_)
        · with_reducible first | (replace h4 := deNF h4) | (replace h4 := of_decide_eq_true h4) | (replace h4 := of_decide_eq_false h4) | (replace h4 := deNT h4) | (replace h4 := deNN h4) | (replace h4 := bnT h4) | (replace h4 := bnF h4) | skip
          refine CW.seq ?_
          refine CW.quietE mixed (by kernel_rfl) ?_
          refine QL.y rfl (y_mov (v := .string _) rfl) ?_
          refine QL.y rfl (y_mov (v := .int _ _) rfl) ?_
          refine QL.y rfl (y_scutH Tryd.underlying9 (h := k) (by omega) rfl rfl) ?_
          refine QL.y rfl (y_mov (v := .string _) rfl) ?_
          refine QL.y rfl (y_mov (v := .int _ _) rfl) ?_
          refine QL.y rfl (y_add rfl rfl (IntWalk.i64_in _ (by omega))) ?_
          refine QL.y rfl (y_scutL Tryd.underlying9 (h := k + 1) (by omega) rfl rfl) ?_
          refine QL.y rfl (y_scat (by simp; omega) rfl rfl) ?_
          refine QL.y rfl (y_asg (v := .string _) rfl) ?_
          refine QL.nil (fun w3 hE3 => ?_)
          refine Fin.next ?_
          refine CW.ret ?_
          refine Fin.blockRet ?_
          refine Fin.thenRet ?_
          refine Fin.ret1 rfl (by conv => lhs; whnf) ?_
          exact ⟨_, rfl, _, rfl, by simp; omega, hD12.ext hE3⟩
        · with_reducible first | (replace h4 := deNF h4) | (replace h4 := of_decide_eq_true h4) | (replace h4 := of_decide_eq_false h4) | (replace h4 := deNT h4) | (replace h4 := deNN h4) | (replace h4 := bnT h4) | (replace h4 := bnF h4) | skip
          refine CW.skip ?_
          refine Fin.blockNormal ?_
          refine Fin.next ?_
          refine CW.seq ?_
          refine CW.region ?_
          refine RL.y rfl (y_mov (v := .string _) rfl) ?_
          refine RL.y rfl (y_asg (v := .string _) rfl) ?_
          refine RL.nil ?_
          refine Fin.next ?_
          refine CW.ret ?_
          refine Fin.ret1 rfl (by conv => lhs; whnf) ?_
          exact ⟨_, rfl, l, rfl, by omega, hD12⟩
      · with_reducible first | (replace h3 := deNF h3) | (replace h3 := of_decide_eq_true h3) | (replace h3 := of_decide_eq_false h3) | (replace h3 := deNT h3) | (replace h3 := deNN h3) | (replace h3 := bnT h3) | (replace h3 := bnF h3) | skip
        refine CW.skip ?_
        refine Fin.blockNormal ?_
        refine Fin.next ?_
        refine CW.seq ?_
        refine CW.region ?_
        refine RL.y rfl (y_mov (v := .string _) rfl) ?_
        refine RL.y rfl (y_asg (v := .string _) rfl) ?_
        refine RL.nil ?_
        refine Fin.next ?_
        refine CW.ret ?_
        refine Fin.ret1 rfl (by conv => lhs; whnf) ?_
        exact ⟨_, rfl, l, rfl, by omega, hD12⟩

theorem l09Valid_small {w : World} {b : Nat} (hs : Src w b) :
    Does Tryd.prog 37 #[.pointer (some ⟨b, 0, none⟩)] w (fun v' w' => ∃ ps ds, OwB w' w.heap.size w'.heap.size v' ps ds ∧ (2 ≤ ps.length ∧ ps.length ≤ 10 ∧ ds.length = ps.length ∧ sml ps) ∧ Drawn w b w') := by
  have hbw := hs.lt
  refine enter Tryd.func37 rfl 52 Tryd.ntmps37 rfl (by kernel_rfl) ?_
  refine CW.seq ?_
  refine CW.region ?_
  refine RL.alloc rfl ze25 (fun w1 hV1 hE1 => ?_)
  have hc1 := hV1.lt
  have hbw1 : b < w1.heap.size := by omega
  refine RL.nil ?_
  refine Fin.next ?_
  refine CW.seq ?_
  refine CW.region ?_
  refine RL.y rfl (y_mov (by conv => lhs; whnf)) ?_
  refine RL.call rfl (l01Next_any (hs.ext hE1) (by omega)) ?_
  rintro r w2 ⟨x, rfl, ⟨hx0, hx1, -⟩, hD2⟩
  have hx1 := hx1 (by omega)
  have hD12 : Drawn w b w2 := ⟨hD2.1, (hE1.mod _ _).trans hD2.2⟩
  have hV2 := hV1.drawn hD2 (by omega)
  refine RL.y rfl (y_add rfl rfl (IntWalk.i64_in _ (by omega))) ?_
  refine RL.y rfl (y_asg (v := .int _ _) rfl) ?_
  refine RL.nil ?_
  refine Fin.next ?_
  refine CW.seq ?_
  refine CW.region ?_
  refine RL.lit1 rfl sT22 rfl rfl (fun vp w3 hop hE3 hbp => ?_)
  refine RL.lit1 rfl sT23 rfl rfl (fun vd w4 hod hE4 hbd => ?_)
  refine RL.y rfl (y_asg (by conv => lhs; whnf)) ?_
  refine RL.y rfl (y_asg (by conv => lhs; whnf)) ?_
  refine RL.nil ?_
  refine Fin.next ?_
  refine CW.seq ?_
  refine CW.region ?_
  refine RL.lit1 rfl sT22 rfl rfl (fun vg w5 hog hE5 hbg => ?_)
  have hs2 := hD2.size
  have hs3 := hE3.size
  have hs4 := hE4.size
  have hl3 := (hop.lt _ hbp).2
  have hl4 := (hod.lt _ hbd).2
  obtain ⟨n, hn, hnx⟩ : ∃ n : Nat, (2 ≤ n ∧ n ≤ 10) ∧ 2 + x = (n : Int) := ⟨(2 + x).toNat, by omega, by omega⟩
  rw [hnx]
  refine RL.y rfl (y_asg (by conv => lhs; whnf)) ?_
  refine RL.nil ?_
  refine Fin.next ?_
  refine CW.seq ?_
  refine CW.seq ?_
  refine CW.region ?_
  refine RL.y rfl (y_asg rfl) ?_
  refine RL.nil ?_
  refine Fin.next ?_
  refine CW.block ?_
  refine CW.loop (fun m E w' => ∃ (i : Nat) (vp vd vg : Value) (ps : List Int) (ds : List Bool) (gs : List Int), m = n - i ∧ i ≤ n ∧ agrees E [(0, .pointer (some ⟨b, 0, none⟩)), (2, .pointer (some ⟨w.heap.size, 0, none⟩)), (3, .int .i64 (n : Int)), (4, vp), (5, vd), (6, vg), (7, .int .i64 (i : Int))] ∧ (OV w' w1.heap.size 2 vp (ints ps) ∧ OV w' w1.heap.size 4 vd (bools ds) ∧ OV w' w1.heap.size 2 vg (ints gs)) ∧ (NB vp vd ∧ NB vp vg ∧ NB vd vg) ∧ (1 ≤ i ∧ ps.length = i ∧ ds.length = i ∧ 1 ≤ gs.length ∧ gs.length ≤ i ∧ sml ps ∧ ∀ g ∈ gs, 0 ≤ g ∧ g ≤ 22) ∧ VR w' w.heap.size [.slice none 0 0, .slice none 0 0] ∧ Drawn w1 b w') _ (⟨1, vp, vd, vg, [-1], [false], [0], rfl, by omega, ⟨rfl, rfl, rfl, rfl, rfl, rfl, rfl, trivial⟩, ⟨((hop.ext hE4).ext hE5).mono hs2, (hod.ext hE5).mono (by omega), hog.mono (by omega)⟩, ⟨nb_some hbp hbd (by omega), nb_some hbp hbg (by omega), nb_some hbd hbg (by omega)⟩, ⟨by omega, rfl, rfl, by simp, by simp, sml_one, by simp⟩, ((hV2.ext hE3).ext hE4).ext hE5, ((hD2.ext hE3).ext hE4).ext hE5⟩) ?_
  · rintro m E w6 ⟨i, vp, vd, vg, ps, ds, gs, rfl, hi, hag, ⟨hop6, hod6, hog6⟩, ⟨npd, npg, ndg⟩, ⟨hi1, hpl, hdl, hg1, hgl, hsm, hgs⟩, hV6, hD6⟩
    refine CW.re _ hag rfl ?_
    refine CW.seq ?_
    refine CW.seq ?_
    refine CW.region ?_
    refine RL.y rfl (y_mov (v := .int _ _) rfl) ?_
    refine RL.y rfl (y_mov (v := .int _ _) rfl) ?_
    refine RL.y rfl (y_lt rfl rfl) ?_
    refine RL.nil ?_
    refine Fin.next ?_
    refine CW.cond rfl rfl (fun hc => ?_) (fun hc => ?_)
    · with_reducible first | (replace hc := deNF hc) | (replace hc := of_decide_eq_true hc) | (replace hc := of_decide_eq_false hc) | (replace hc := deNT hc) | (replace hc := deNN hc) | (replace hc := bnT hc) | (replace hc := bnF hc) | skip
      have hlt : i < n := by omega
      refine CW.skip ?_
      refine Fin.next ?_
      refine CW.seq ?_
      refine CW.block ?_
      refine CW.seq ?_
      refine CW.region ?_
      refine RL.y rfl (y_mov (by conv => lhs; whnf)) ?_
      refine RL.y rfl (y_mov (by conv => lhs; whnf)) ?_
      refine RL.y rfl (y_mov (by conv => lhs; whnf)) ?_
      refine RL.y rfl (y_mov (by conv => lhs; whnf)) ?_
      refine RL.y rfl (y_len sT22 hog6.sv (ints_len _) rfl) ?_
      refine RL.call rfl (l01Next_any hD6.1 (by omega)) ?_
      rintro r w7 ⟨y, rfl, ⟨hy0, hy1, -⟩, hD7⟩
      have hy1 := hy1 (by omega)
      have hyt : y.toNat < gs.length := by omega
      have hop7 := hop6.drawn hD7 (by omega)
      have hod7 := hod6.drawn hD7 (by omega)
      have hog7 := hog6.drawn hD7 (by omega)
      have hV7 := hV6.drawn hD7 (by omega)
      have hD17 := hD6.trans hD7
      refine RL.y rfl (y_ixi sT22 (eqw (hog7.sv)) hy0 (by rw [ints_len]; omega) rfl rfl) ?_
      refine RL.y rfl (y_load sc2 (eqw (hog7.sv)) (B.ints_at hyt) rfl) ?_
      have hs1w := hE1.size
      have hs17 := hD17.size
      have hs27 := hs2
      refine RL.app1i rfl rfl sT22 (by omega) hop7 (by omega) hD17.size rfl (fun _ => rfl) (fun u vp8 w8 hop8 hg8 hn8 => ?_)
      have hod8 := ov_other hod7 hg8 npd.symm
      have hog8 := ov_other hog7 hg8 npg.symm
      have npd8 := nb_both npd hod7.blk hn8
      have npg8 := nb_both npg hog7.blk hn8
      have hV8 := hV7.grown hg8 (fun e => by have := (hop7.lt _ e).1; omega)
      have hD8 := hD17.grown hbw1 hg8 (fun k hk => (hop7.lt _ hk).1)
      refine RL.y rfl (y_asg (by conv => lhs; whnf)) ?_
      refine RL.nil ?_
      refine Fin.next ?_
      refine CW.cut (fun E w' => ∃ dd : Bool, agrees E [(0, .pointer (some ⟨b, 0, none⟩)), (2, .pointer (some ⟨w.heap.size, 0, none⟩)), (3, .int .i64 (n : Int)), (4, vp8), (5, vd), (6, vg), (7, .int .i64 (i : Int)), (8, .bool dd)] ∧ (OV w' w1.heap.size 2 vp8 (ints (ps ++ [gs[y.toNat]])) ∧ OV w' w1.heap.size 4 vd (bools ds) ∧ OV w' w1.heap.size 2 vg (ints gs)) ∧ VR w' w.heap.size [.slice none 0 0, .slice none 0 0] ∧ Drawn w1 b w') ?_ ?_
      · refine CW.region ?_
        refine RL.y rfl (y_mov (v := .int _ _) rfl) ?_
        refine RL.y rfl (y_mov (v := .int _ _) rfl) ?_
        refine RL.y rfl (y_sub rfl rfl (IntWalk.i64_in _ (by omega))) ?_
        refine RL.y rfl (y_eq rfl rfl) ?_
        refine RL.y rfl (y_mov (v := .bool _) rfl) ?_
        refine RL.split (t := 34) rfl rfl (fun h1 => ?_) (fun h1 => ?_)
        · with_reducible first | (replace h1 := deNF h1) | (replace h1 := of_decide_eq_true h1) | (replace h1 := of_decide_eq_false h1) | (replace h1 := deNT h1) | (replace h1 := deNN h1) | (replace h1 := bnT h1) | (replace h1 := bnF h1) | skip
          refine RL.pass (t := 34) rfl rfl rfl rfl ?_
          refine RL.pass (t := 34) rfl rfl rfl rfl ?_
          refine RL.pass (t := 34) rfl rfl rfl rfl ?_
          refine RL.y rfl (y_pickT (v := .bool _) rfl rfl) ?_
          refine RL.y rfl (y_asg (v := .bool _) rfl) ?_
          refine RL.nil ?_
          refine Fin.le ?_
          exact ⟨true, ⟨rfl, rfl, rfl, rfl, rfl, rfl, rfl, rfl, trivial⟩, ⟨hop8, hod8, hog8⟩, hV8, hD8⟩
        · with_reducible first | (replace h1 := deNF h1) | (replace h1 := of_decide_eq_true h1) | (replace h1 := of_decide_eq_false h1) | (replace h1 := deNT h1) | (replace h1 := deNN h1) | (replace h1 := bnT h1) | (replace h1 := bnF h1) | skip
          refine RL.take (t := 34) rfl rfl rfl ?_
          refine RL.y rfl (y_mov (by conv => lhs; whnf)) ?_
          refine RL.take (t := 34) rfl rfl rfl ?_
          refine RL.call rfl (l01Next_any hD8.1 (by omega)) ?_
          rintro r w9 ⟨z, rfl, -, hD9⟩
          refine RL.take (t := 34) rfl rfl rfl ?_
          refine RL.y rfl (y_gt rfl rfl) ?_
          refine RL.y rfl (y_pickF (v := .bool _) rfl rfl) ?_
          refine RL.y rfl (y_asg (v := .bool _) rfl) ?_
          refine RL.nil ?_
          refine Fin.le ?_
          exact ⟨_, ⟨rfl, rfl, rfl, rfl, rfl, rfl, rfl, rfl, trivial⟩, ⟨hop8.drawn hD9 (by omega), hod8.drawn hD9 (by omega), hog8.drawn hD9 (by omega)⟩, hV8.drawn hD9 (by omega), hD8.trans hD9⟩
      · rintro E w9 ⟨dd, hag, ⟨hop9, hod9, hog9⟩, hV9, hD9⟩
        refine CW.re _ hag rfl ?_
        refine CW.seq ?_
        refine CW.region ?_
        refine RL.y rfl (y_mov (by conv => lhs; whnf)) ?_
        refine RL.y rfl (y_mov (v := .bool _) rfl) ?_
        refine RL.app1 rfl rfl sT23 (by omega) hod9 (by rw [bools_len]; omega) hD9.size rfl rfl (fun _ => rfl) (fun u vd10 w10 hod10 hg10 hn10 => ?_)
        have hod10' : OV w10 w1.heap.size 4 vd10 (bools (ds ++ [dd])) := by rw [← bools_app]; exact hod10
        have hop10 := ov_other hop9 hg10 npd8
        have hog10 := ov_other hog9 hg10 ndg.symm
        have npd10 := B.nb_new npd8 hop9.blk hn10
        have ndg10 := nb_both ndg hog9.blk hn10
        have hV10 := hV9.grown hg10 (fun e => by have := (hod9.lt _ e).1; omega)
        have hD10 := hD9.grown hbw1 hg10 (fun k hk => (hod9.lt _ hk).1)
        refine RL.y rfl (y_asg (by conv => lhs; whnf)) ?_
        refine RL.nil ?_
        refine Fin.next ?_
        refine CW.seq ?_
        refine CW.region ?_
        refine RL.y rfl (y_mov (v := .bool _) rfl) ?_
        refine RL.y rfl (y_not rfl) ?_
        refine RL.nil ?_
        refine Fin.next ?_
        refine CW.cond rfl rfl (fun h2 => ?_) (fun h2 => ?_)
        · with_reducible first | (replace h2 := deNF h2) | (replace h2 := of_decide_eq_true h2) | (replace h2 := of_decide_eq_false h2) | (replace h2 := deNT h2) | (replace h2 := deNN h2) | (replace h2 := bnT h2) | (replace h2 := bnF h2) | skip
          refine CW.region ?_
          refine RL.y rfl (y_mov (by conv => lhs; whnf)) ?_
          refine RL.y rfl (y_mov (v := .int _ _) rfl) ?_
          refine RL.app1i rfl rfl sT22 (by omega) hog10 (by omega) hD10.size rfl (fun _ => rfl) (fun u vg11 w11 hog11 hg11 hn11 => ?_)
          refine RL.y rfl (y_asg (by conv => lhs; whnf)) ?_
          refine RL.nil ?_
          refine Fin.blockNormal ?_
          refine Fin.next ?_
          refine CW.region ?_
          refine RL.y rfl (y_mov (v := .int _ _) rfl) ?_
          refine RL.y rfl (y_add rfl rfl (IntWalk.i64_in _ (by omega))) ?_
          refine RL.y rfl (y_asg (v := .int _ _) rfl) ?_
          refine RL.nil ?_
          refine Fin.le ?_
          exact ⟨n - (i + 1), by omega, i + 1, vp8, vd10, vg11, ps ++ [gs[y.toNat]], ds ++ [dd], gs ++ [(i : Int)], rfl, hlt, ⟨rfl, rfl, rfl, rfl, rfl, rfl, rfl, trivial⟩, ⟨ov_other hop10 hg11 npg8, ov_other hod10' hg11 ndg10, hog11⟩, ⟨npd10, B.nb_new npg8 hop10.blk hn11, B.nb_new ndg10 hod10.blk hn11⟩, ⟨by omega, by simp [hpl], by simp [hdl], by simp, by simp; omega, hsm.snoc (by omega) (hgs _ (List.getElem_mem hyt)), fun g hg => by rcases List.mem_append.1 hg with h | h; exact hgs g h; obtain rfl := List.mem_singleton.1 h; omega⟩, hV10.grown hg11 (fun e => by have := (hog10.lt _ e).1; omega), hD10.grown hbw1 hg11 (fun k hk => (hog10.lt _ hk).1)⟩
        · with_reducible first | (replace h2 := deNF h2) | (replace h2 := of_decide_eq_true h2) | (replace h2 := of_decide_eq_false h2) | (replace h2 := deNT h2) | (replace h2 := deNN h2) | (replace h2 := bnT h2) | (replace h2 := bnF h2) | skip
          refine CW.skip ?_
          refine Fin.blockNormal ?_
          refine Fin.next ?_
          refine CW.region ?_
          refine RL.y rfl (y_mov (v := .int _ _) rfl) ?_
          refine RL.y rfl (y_add rfl rfl (IntWalk.i64_in _ (by omega))) ?_
          refine RL.y rfl (y_asg (v := .int _ _) rfl) ?_
          refine RL.nil ?_
          refine Fin.le ?_
          exact ⟨n - (i + 1), by omega, i + 1, vp8, vd10, vg, ps ++ [gs[y.toNat]], ds ++ [dd], gs, rfl, hlt, ⟨rfl, rfl, rfl, rfl, rfl, rfl, rfl, trivial⟩, ⟨hop10, hod10', hog10⟩, ⟨npd10, npg8, ndg10⟩, ⟨by omega, by simp [hpl], by simp [hdl], hg1, by omega, hsm.snoc (by omega) (hgs _ (List.getElem_mem hyt)), hgs⟩, hV10, hD10⟩
    · with_reducible first | (replace hc := deNF hc) | (replace hc := of_decide_eq_true hc) | (replace hc := of_decide_eq_false hc) | (replace hc := deNT hc) | (replace hc := deNN hc) | (replace hc := bnT hc) | (replace hc := bnF hc) | skip
      obtain rfl : i = n := by omega
      refine CW.exit ?_
      refine Fin.thenExit ?_
      refine Fin.thenExit ?_
      refine Fin.blockHit ?_
      refine Fin.next ?_
      refine CW.seq ?_
      refine CW.region ?_
      refine RL.y rfl (y_mov (by conv => lhs; whnf)) ?_
      refine RL.y rfl (y_mov (by conv => lhs; whnf)) ?_
      refine RL.y rfl (y_build bd25 rfl (fill_one (slice_one hop6.sv) rfl rfl (fill_one (slice_one hod6.sv) rfl rfl fill_nil))) ?_
      refine RL.stores ag25 (hV6) rfl rfl rfl rfl ((show ([vp, vd] : List Value).all (·.oneCell') = true by simp [slice_one hop6.sv, slice_one hod6.sv])) (fun w7 hV7 hg7 => ?_)
      replace hV7 : VR w7 w.heap.size [vp, vd] := hV7
      have hs7 := hg7.size
      have hM7 : Mod w.heap.size (w.heap.size + 1) w6 w7 := grown_mod hg7 (fun k hk => by simp only [Option.some.injEq] at hk; omega)
      have hD7 : Drawn w b w7 := (show Drawn w b w6 from ⟨hD6.1, (hE1.mod _ _).trans hD6.2⟩).grown hbw hg7 (fun k hk => by simp only [Option.some.injEq] at hk; omega)
      have hp7 := hop6.grown hg7 (.inl (fun e => by have := (hop6.lt _ e).1; omega))
      have hd7 := hod6.grown hg7 (.inl (fun e => by have := (hod6.lt _ e).1; omega))
      refine RL.nil ?_
      refine Fin.next ?_
      refine CW.ret ?_
      refine Fin.retc rfl ag25 rfl rfl (hV7) ?_
      exact ⟨_, rfl, ps, ds, ⟨vp, vd, rfl, ⟨hp7.mono (by omega), Nat.le_refl _, fun b hb => (hp7.lt b hb).2⟩, ⟨hd7.mono (by omega), Nat.le_refl _, fun b hb => (hd7.lt b hb).2⟩, npd⟩, ⟨by omega, by omega, by omega, hsm⟩, hD7⟩

theorem l09Text_small {w : World} {b : Value} {ps : List Int} {ds : List Bool} (hb : RdB w b ps ds) (hpl : 2 ≤ ps.length ∧ ps.length ≤ 24) (hdl : ds.length = ps.length) (hsm0 : sml ps) :
    Does Tryd.prog 23 #[b] w (fun r w' => r = .string ⟨(btx ps ds ps.length).toArray⟩ ∧ Ext w w') := by
  obtain ⟨vp, vd, rfl, hp, hd⟩ := hb
  have hsm : ∀ i, i < ps.length → -1000 ≤ par ps i ∧ par ps i ≤ 1000 := fun i hi => by have := hsm0 i hi; omega
  refine enter Tryd.func23 rfl 33 Tryd.ntmps23 rfl (by kernel_rfl) ?_
  refine CW.seq ?_
  refine CW.region ?_
  refine RL.box (cs := [vp, vd]) rfl rfl rfl (fun w1 hV hE1 => ?_)
  refine RL.y rfl (y_asg rfl) ?_
  refine RL.nil ?_
  refine Fin.next ?_
  refine CW.seq ?_
  refine CW.region ?_
  refine RL.y rfl (y_asg rfl) ?_
  refine RL.nil ?_
  refine Fin.next ?_
  refine CW.seq ?_
  refine CW.seq ?_
  refine CW.region ?_
  refine RL.y rfl (y_asg rfl) ?_
  refine RL.nil ?_
  refine Fin.next ?_
  refine CW.block ?_
  refine CW.loop (fun m E w' => ∃ k : Nat, m = ps.length - k ∧ (1 ≤ k ∧ k ≤ ps.length) ∧ agrees E [(1, .pointer (some ⟨w.heap.size, 0, none⟩)), (3, .string ⟨(btx ps ds k).toArray⟩), (4, .int .i64 (k : Int))] ∧ Ext w1 w') _ (⟨1, rfl, ⟨Nat.le_refl _, by omega⟩, ⟨rfl, by rw [btx_one]; rfl, rfl, trivial⟩, Ext.refl _⟩) ?_
  · rintro m E w2 ⟨k, rfl, ⟨hk1, hk2⟩, hag, hE2⟩
    refine CW.re _ hag rfl ?_
    refine CW.seq ?_
    refine CW.seq ?_
    refine CW.region ?_
    refine RL.y rfl (y_mov (v := .int _ _) rfl) ?_
    refine RL.y rfl (y_fa fa25_0 rfl rfl) ?_
    refine RL.y rfl (y_loadv sc22 (eqw (hV.ext hE2)) rfl rfl) ?_
    refine RL.y rfl (y_len sT22 hp (ints_len _) rfl) ?_
    refine RL.y rfl (y_lt rfl rfl) ?_
    refine RL.nil ?_
    refine Fin.next ?_
    refine CW.cond rfl rfl (fun hck => ?_) (fun hck => ?_)
    · with_reducible first | (replace hck := deNF hck) | (replace hck := of_decide_eq_true hck) | (replace hck := of_decide_eq_false hck) | (replace hck := deNT hck) | (replace hck := deNN hck) | (replace hck := bnT hck) | (replace hck := bnF hck) | skip
      have hlt : k < ps.length := by omega
      have hbl := btx_len (ds := ds) hsm k hk2
      have hpk := hsm0 k hlt
      have hpk1 := hpk.2.2 hk1
      have hwl := word_len (d := isD ds k) (hsm k hlt)
      have hg : par ps k = ps[k] := getD_lt hlt
      have hgd : isD ds k = ds[k] := getD_lt (by omega)
      have hE12 := hE1.trans hE2
      have hwe : word (par ps k) (isD ds k) = Lib.decDigits ps[k].toNat ++ [if ds[k] = true then 100 else 103] := by unfold word; rw [hg, hgd, show ps[k] = ((ps[k].toNat : Nat) : Int) from by omega, Lib.itoa_nonneg]; rfl
      rw [hwe] at hwl
      rw [List.length_append] at hwl
      refine CW.skip ?_
      refine Fin.next ?_
      refine CW.seq ?_
      refine CW.block ?_
      refine CW.cut (fun E w' => ∃ l : List UInt8, agrees E [(1, .pointer (some ⟨w.heap.size, 0, none⟩)), (3, .string ⟨l.toArray⟩), (4, .int .i64 (k : Int))] ∧ (btx ps ds (k + 1) = l ++ word (par ps k) (isD ds k) ∧ l.length ≤ 23 * k + 1) ∧ w2 = w') ?_ ?_
      · refine CW.seq ?_
        refine CW.region ?_
        refine RL.y rfl (y_mov (v := .int _ _) rfl) ?_
        refine RL.y rfl (y_gt rfl rfl) ?_
        refine RL.nil ?_
        refine Fin.next ?_
        refine CW.cond rfl rfl (fun h1 => ?_) (fun h1 => ?_)
        · with_reducible first | (replace h1 := deNF h1) | (replace h1 := of_decide_eq_true h1) | (replace h1 := of_decide_eq_false h1) | (replace h1 := deNT h1) | (replace h1 := deNN h1) | (replace h1 := bnT h1) | (replace h1 := bnF h1) | skip
          refine CW.region ?_
          refine RL.y rfl (y_mov (v := .string _) rfl) ?_
          refine RL.y rfl (y_scat (by simp; omega) rfl rfl) ?_
          refine RL.y rfl (y_asg (v := .string _) rfl) ?_
          refine RL.nil ?_
          refine Fin.le ?_
          exact ⟨btx ps ds k ++ [32], ⟨rfl, rfl, rfl, trivial⟩, ⟨btx_more (by omega), by simp; omega⟩, rfl⟩
        · with_reducible first | (replace h1 := deNF h1) | (replace h1 := of_decide_eq_true h1) | (replace h1 := of_decide_eq_false h1) | (replace h1 := deNT h1) | (replace h1 := deNN h1) | (replace h1 := bnT h1) | (replace h1 := bnF h1) | skip
          obtain rfl : k = 1 := by omega
          refine CW.skip ?_
          refine Fin.le ?_
          exact ⟨btx ps ds 1, ⟨rfl, rfl, rfl, trivial⟩, ⟨btx_two, by omega⟩, rfl⟩
      · rintro E w3 ⟨l, hag, ⟨hbe, hll⟩, rfl⟩
        refine CW.re _ hag rfl ?_
        rw [hwe] at hbe
        refine CW.seq ?_
        refine CW.region ?_
        refine RL.y rfl (y_asg rfl) ?_
        refine RL.nil ?_
        refine Fin.next ?_
        refine CW.cut (fun E w' => agrees E [(1, .pointer (some ⟨w.heap.size, 0, none⟩)), (3, .string ⟨l.toArray⟩), (4, .int .i64 (k : Int)), (5, .string ⟨([if ds[k] = true then 100 else 103] : List UInt8).toArray⟩)] ∧ w2 = w') ?_ ?_
        · refine CW.seq ?_
          refine CW.region ?_
          refine RL.y rfl (y_fa fa25_1 rfl rfl) ?_
          refine RL.y rfl (y_loadv sc23 (eqw (hV.ext hE2)) rfl rfl) ?_
          refine RL.y rfl (y_mov (v := .int _ _) rfl) ?_
          refine RL.y rfl (y_ixa sT23 (eqw ((hd.ext hE12))) (k := k) (by rw [bools_len]; omega) rfl rfl) ?_
          refine RL.y rfl (y_load sc4 (eqw ((hd.ext hE12))) ((bools_at (by omega))) rfl) ?_
          refine RL.nil ?_
          refine Fin.next ?_
          refine CW.cond rfl rfl (fun h2 => ?_) (fun h2 => ?_)
          · with_reducible first | (replace h2 := deNF h2) | (replace h2 := of_decide_eq_true h2) | (replace h2 := of_decide_eq_false h2) | (replace h2 := deNT h2) | (replace h2 := deNN h2) | (replace h2 := bnT h2) | (replace h2 := bnF h2) | skip
            refine CW.region ?_
            refine RL.y rfl (y_asg rfl) ?_
            refine RL.nil ?_
            refine Fin.le ?_
            exact ⟨⟨rfl, rfl, rfl, by rw [if_pos h2]; rfl, trivial⟩, rfl⟩
          · with_reducible first | (replace h2 := deNF h2) | (replace h2 := of_decide_eq_true h2) | (replace h2 := of_decide_eq_false h2) | (replace h2 := deNT h2) | (replace h2 := deNN h2) | (replace h2 := bnT h2) | (replace h2 := bnF h2) | skip
            refine CW.skip ?_
            refine Fin.le ?_
            exact ⟨⟨rfl, rfl, rfl, by rw [if_neg (by rw [h2]; exact Bool.false_ne_true)]; rfl, trivial⟩, rfl⟩
        · rintro E w3 ⟨hag, rfl⟩
          refine CW.re _ hag rfl ?_
          refine CW.region ?_
          refine RL.y rfl (y_mov (v := .string _) rfl) ?_
          refine RL.y rfl (y_fa fa25_0 rfl rfl) ?_
          refine RL.y rfl (y_loadv sc22 (eqw (hV.ext hE2)) rfl rfl) ?_
          refine RL.y rfl (y_mov (v := .int _ _) rfl) ?_
          refine RL.y rfl (y_ixa sT22 (eqw ((hp.ext hE12))) (k := k) (ints_lt hlt) rfl rfl) ?_
          refine RL.y rfl (y_load sc2 (eqw ((hp.ext hE12))) (B.ints_at hlt) rfl) ?_
          rw [show ps[k] = ((ps[k].toNat : Nat) : Int) from by omega]
          refine RL.call rfl (l01Dec_any ps[k].toNat w2 (by omega)) ?_
          rintro r w4 ⟨rfl, hE4⟩
          refine RL.y rfl (y_scat (by omega) rfl rfl) ?_
          refine RL.y rfl (y_mov (v := .string _) rfl) ?_
          refine RL.y rfl (y_scat (by rw [List.length_append]; simp; omega) rfl rfl) ?_
          refine RL.y rfl (y_asg (v := .string _) rfl) ?_
          refine RL.nil ?_
          refine Fin.blockNormal ?_
          refine Fin.next ?_
          refine CW.region ?_
          refine RL.y rfl (y_mov (v := .int _ _) rfl) ?_
          refine RL.y rfl (y_add rfl rfl (IntWalk.i64_in _ (by omega))) ?_
          refine RL.y rfl (y_asg (v := .int _ _) rfl) ?_
          refine RL.nil ?_
          refine Fin.le ?_
          exact ⟨ps.length - (k + 1), by omega, k + 1, rfl, ⟨by omega, hlt⟩, ⟨rfl, by rw [hbe, List.append_assoc]; rfl, rfl, trivial⟩, hE2.trans hE4⟩
    · with_reducible first | (replace hck := deNF hck) | (replace hck := of_decide_eq_true hck) | (replace hck := of_decide_eq_false hck) | (replace hck := deNT hck) | (replace hck := deNN hck) | (replace hck := bnT hck) | (replace hck := bnF hck) | skip
      obtain rfl : k = ps.length := by omega
      refine CW.exit ?_
      refine Fin.thenExit ?_
      refine Fin.thenExit ?_
      refine Fin.blockHit ?_
      refine Fin.next ?_
      refine CW.seq ?_
      refine CW.region ?_
      refine RL.y rfl (y_mov (v := .string _) rfl) ?_
      refine RL.y rfl (y_asg (v := .string _) rfl) ?_
      refine RL.nil ?_
      refine Fin.next ?_
      refine CW.ret ?_
      refine Fin.ret1 rfl (by conv => lhs; whnf) ?_
      exact ⟨_, rfl, rfl, hE1.trans hE2⟩

theorem DrawBuildingText_any {w : World} {v : Value} {l : List UInt8} (hv : SV w v (byts l)) :
    Does Tryd.prog 12 #[v] w (fun v' w' => ∃ ps ds, RuB w' w.heap.size w'.heap.size v' ps ds ∧ ps.length ≤ 30 ∧ Ext w w') := by
  refine enter Tryd.func12 rfl 6 Tryd.ntmps12 rfl (by kernel_rfl) ?_
  refine CW.seq ?_
  refine CW.region ?_
  refine RL.alloc rfl ze25 (fun w1 hV1 hE1 => ?_)
  have hc1 := hV1.lt
  refine RL.nil ?_
  refine Fin.next ?_
  refine CW.seq ?_
  refine CW.region ?_
  refine RL.y rfl (y_mov (by conv => lhs; whnf)) ?_
  refine RL.call rfl (l01From_any (hv.ext hE1)) ?_
  rintro r w2 ⟨rfl, hS2, hE2⟩
  refine RL.call rfl (l09Draw_any hS2) ?_
  rintro v1 w3 ⟨ps, ds, hR3, hl, hD3⟩
  obtain ⟨vp, vd, rfl, _⟩ := id hR3
  have hV3 := (hV1.ext hE2).drawn hD3 (by omega)
  have hE3 := hD3.own (hE1.trans hE2) hE1.size
  have hs2 := hS2.lt
  have hs3 := hD3.size
  refine RL.stores ag25 (hV3) rfl rfl rfl rfl (hR3.one) (fun w4 hV4 hg4 => ?_)
  replace hV4 : VR w4 w.heap.size [vp, vd] := hV4
  have hs4 := hg4.size
  have hM4 : Mod w.heap.size (w.heap.size + 1) w3 w4 := grown_mod hg4 (fun k hk => by simp only [Option.some.injEq] at hk; omega)
  refine RL.nil ?_
  refine Fin.next ?_
  refine CW.ret ?_
  refine Fin.retc rfl ag25 rfl rfl (hV4) ?_
  exact ⟨_, rfl, ps, ds, (hR3.mod hM4 (by omega)).wide (by omega) hs4 (Nat.le_refl _), hl, hE3.then_mod hM4 (Nat.le_refl _)⟩

theorem DrawReadBuilding_any {w : World} {v : Value} {l : List UInt8} (hv : SV w v (byts l)) :
    Does Tryd.prog 15 #[v] w (fun r w' => ∃ m : List UInt8, r = .string ⟨m.toArray⟩ ∧ m.length ≤ 1001 ∧ Ext w w') := by
  refine enter Tryd.func15 rfl 17 Tryd.ntmps15 rfl (by kernel_rfl) ?_
  refine CW.seq ?_
  refine CW.region ?_
  refine RL.y rfl (y_asg rfl) ?_
  refine RL.nil ?_
  refine Fin.next ?_
  refine CW.seq ?_
  refine CW.region ?_
  refine RL.y rfl (y_mov (by conv => lhs; whnf)) ?_
  refine RL.call rfl (l01From_any hv) ?_
  rintro r w1 ⟨rfl, hS1, hE1⟩
  refine RL.y rfl (y_asg (by conv => lhs; whnf)) ?_
  refine RL.nil ?_
  refine Fin.next ?_
  refine CW.seq ?_
  refine CW.region ?_
  refine RL.y rfl (y_mov (by conv => lhs; whnf)) ?_
  refine RL.call rfl (l09Valid_small hS1) ?_
  rintro v1 w2 ⟨ps, ds, hO2, ⟨h2, h10, hdl, hsm⟩, hD2⟩
  refine RL.call rfl (l09Text_small hO2.rd (by omega) hdl hsm) ?_
  rintro r w3 ⟨rfl, hE3⟩
  have hX3 := hD2.ext hE3
  have hbl := btx_len (ds := ds) (fun i hi => by have := hsm i hi; omega) ps.length (Nat.le_refl _)
  refine RL.y rfl (y_asg (v := .string _) rfl) ?_
  refine RL.nil ?_
  refine Fin.next ?_
  refine CW.seq ?_
  refine CW.seq ?_
  refine CW.region ?_
  refine RL.y rfl (y_mov (by conv => lhs; whnf)) ?_
  refine RL.call rfl (l01Next_any hX3.1 (by omega)) ?_
  rintro r w4 ⟨z, rfl, -, hD4⟩
  have hX4 := hX3.trans hD4
  refine RL.y rfl (y_eq rfl rfl) ?_
  refine RL.nil ?_
  refine Fin.next ?_
  refine CW.cond rfl rfl (fun h1 => ?_) (fun h1 => ?_)
  · with_reducible first | (replace h1 := deNF h1) | (replace h1 := of_decide_eq_true h1) | (replace h1 := of_decide_eq_false h1) | (replace h1 := deNT h1) | (replace h1 := deNN h1) | (replace h1 := bnT h1) | (replace h1 := bnF h1) | skip
    refine CW.seq ?_
    refine CW.region ?_
    refine RL.y rfl (y_mov (by conv => lhs; whnf)) ?_
    refine RL.y rfl (y_mov (v := .string _) rfl) ?_
    refine RL.call rfl (l01Damage_any hX4.1 (by omega)) ?_
    rintro r w5 ⟨m, rfl, hm, hD5⟩
    refine RL.y rfl (y_asg (v := .string _) rfl) ?_
    refine RL.nil ?_
    refine Fin.next ?_
    refine CW.ret ?_
    refine Fin.thenRet ?_
    refine Fin.ret1 rfl (by conv => lhs; whnf) ?_
    exact ⟨_, rfl, m, rfl, hm, (hX4.trans hD5).own hE1 (Nat.le_refl _)⟩
  · with_reducible first | (replace h1 := deNF h1) | (replace h1 := of_decide_eq_true h1) | (replace h1 := of_decide_eq_false h1) | (replace h1 := deNT h1) | (replace h1 := deNN h1) | (replace h1 := bnT h1) | (replace h1 := bnF h1) | skip
    refine CW.skip ?_
    refine Fin.next ?_
    refine CW.seq ?_
    refine CW.region ?_
    refine RL.y rfl (y_mov (v := .string _) rfl) ?_
    refine RL.y rfl (y_asg (v := .string _) rfl) ?_
    refine RL.nil ?_
    refine Fin.next ?_
    refine CW.ret ?_
    refine Fin.ret1 rfl (by conv => lhs; whnf) ?_
    exact ⟨_, rfl, _, rfl, by omega, hX4.own hE1 (Nat.le_refl _)⟩
end Go.Proofs.YtebegkegkdmbjaaDoor
