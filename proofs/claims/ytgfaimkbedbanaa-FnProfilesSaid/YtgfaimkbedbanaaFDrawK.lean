/-
  Drawn profiles and keyways.
-/
import Derived.Test.YtgfaimkbedbanaaFDraw
import Derived.Test.YtgfaimkbedbanaaFKey2
import Derived.Test.YtgfaimkbedbanaaFKey4
namespace Go.Proofs.Ytgfaimkbedbanaa
open B Go.RowKit

theorem l06DrawProfile_any {w : World} {b : Nat} (hs : Src w b) :
    Does Try.prog 57 #[.pointer (some ⟨b, 0, none⟩)] w (fun r w' => ∃ x : Int, r = .int .i64 x ∧ (-1 ≤ x ∧ x ≤ 4096) ∧ Drawn w b w') := by
  have hbw := hs.lt
  refine enter Try.func57 rfl 19 Try.ntmps57 rfl (by kernel_rfl) ?_
  refine CW.seq ?_
  refine CW.region ?_
  refine RL.y rfl (y_asg rfl) ?_
  refine RL.nil ?_
  refine Fin.next ?_
  refine CW.seq ?_
  refine CW.seq ?_
  refine CW.region ?_
  refine RL.y rfl (y_mov (by conv => lhs; whnf)) ?_
  refine RL.call rfl (l01Next_any hs (by omega)) ?_
  rintro r w1 ⟨a, rfl, -, hD1⟩
  have hs1 := hD1.size
  refine RL.y rfl (y_eq rfl rfl) ?_
  refine RL.nil ?_
  refine Fin.next ?_
  refine CW.cond rfl rfl (fun h1 => ?_) (fun h1 => ?_)
  · with_reducible first | (replace h1 := deNF h1) | (replace h1 := of_decide_eq_true h1) | (replace h1 := of_decide_eq_false h1) | (replace h1 := deNT h1) | (replace h1 := deNN h1) | (replace h1 := bnT h1) | (replace h1 := bnF h1) | skip
    refine CW.seq ?_
    refine CW.region ?_
    refine RL.y rfl (y_mov (by conv => lhs; whnf)) ?_
    refine RL.lits [.int .i64 (-1), .int .i64 0, .int .i64 4095, .int .i64 4096] rfl sT32 rfl (by omega) (by simp [Value.oneCell']) rfl (fun vq w2 hoq hE2 hbq => ?_)
    have hX2 := hD1.ext hE2
    refine RL.call rfl (l01Pick_any (xs := [-1, 0, 4095, 4096]) hX2.1 hoq.sv (by simp) (fun x hx => by have := (hoq.lt x hx).1; omega)) ?_
    rintro r w3 ⟨y, rfl, hy, hD3⟩
    have hyb : -1 ≤ y ∧ y ≤ 4096 := by simp at hy; omega
    refine RL.y rfl (y_asg (v := .int _ _) rfl) ?_
    refine RL.nil ?_
    refine Fin.next ?_
    refine CW.ret ?_
    refine Fin.thenRet ?_
    refine Fin.ret1 rfl (by conv => lhs; whnf) ?_
    exact ⟨_, rfl, y, rfl, hyb, hX2.trans hD3⟩
  · with_reducible first | (replace h1 := deNF h1) | (replace h1 := of_decide_eq_true h1) | (replace h1 := of_decide_eq_false h1) | (replace h1 := deNT h1) | (replace h1 := deNN h1) | (replace h1 := bnT h1) | (replace h1 := bnF h1) | skip
    refine CW.skip ?_
    refine Fin.next ?_
    refine CW.seq ?_
    refine CW.region ?_
    refine RL.y rfl (y_mov (by conv => lhs; whnf)) ?_
    refine RL.y rfl (y_mov (by conv => lhs; whnf)) ?_
    refine RL.call rfl (l01Next_any hD1.1 (by omega)) ?_
    rintro r w2 ⟨c, rfl, ⟨hc0, hc1, -⟩, hD2⟩
    replace hc1 := hc1 (by omega)
    refine RL.y rfl (y_mov (by conv => lhs; whnf)) ?_
    refine RL.call rfl (l01Next_any hD2.1 (by omega)) ?_
    rintro r w3 ⟨e, rfl, ⟨he0, he1, -⟩, hD3⟩
    replace he1 := he1 (by omega)
    refine RL.y rfl (y_mov (by conv => lhs; whnf)) ?_
    refine RL.call rfl (l01Next_any hD3.1 (by omega)) ?_
    rintro r w4 ⟨f, rfl, ⟨hf0, hf1, -⟩, hD4⟩
    replace hf1 := hf1 (by omega)
    have hX4 := ((hD1.trans hD2).trans hD3).trans hD4
    have hs4 := hX4.size
    refine RL.y rfl (y_sub rfl rfl (IntWalk.i64_in _ (by omega))) ?_
    refine RL.lits [.int .i64 c, .int .i64 e, .int .i64 (4095 - f)] rfl sT32 rfl (by omega) (by simp [Value.oneCell']) rfl (fun vq w5 hoq hE5 hbq => ?_)
    have hX5 := hX4.ext hE5
    refine RL.call rfl (l01Pick_any (xs := [c, e, 4095 - f]) hX5.1 hoq.sv (by simp) (fun x hx => by have := (hoq.lt x hx).1; omega)) ?_
    rintro r w6 ⟨y, rfl, hy, hD6⟩
    have hyb : -1 ≤ y ∧ y ≤ 4096 := by simp at hy; omega
    refine RL.y rfl (y_asg (v := .int _ _) rfl) ?_
    refine RL.nil ?_
    refine Fin.next ?_
    refine CW.ret ?_
    refine Fin.ret1 rfl (by conv => lhs; whnf) ?_
    exact ⟨_, rfl, y, rfl, hyb, hX5.trans hD6⟩

theorem l06DrawWays_any {w : World} {b : Nat} (hs : Src w b) :
    Does Try.prog 59 #[.pointer (some ⟨b, 0, none⟩)] w (fun v' w' => ∃ ns, OV w' w.heap.size 2 v' (ints ns) ∧ ns.length ≤ 10 ∧ Drawn w b w') := by
  have hbw := hs.lt
  refine enter Try.func59 rfl 33 Try.ntmps59 rfl (by kernel_rfl) ?_
  refine CW.seq ?_
  refine CW.region ?_
  refine RL.y rfl (y_asg rfl) ?_
  refine RL.nil ?_
  refine Fin.next ?_
  refine CW.seq ?_
  refine CW.region ?_
  refine RL.lit0 rfl sT32 (fun vo w1 ho1 hE1 hb1 => ?_)
  have hX1 := (Drawn.refl hs).ext hE1
  refine RL.y rfl (y_asg (by conv => lhs; whnf)) ?_
  refine RL.nil ?_
  refine Fin.next ?_
  refine CW.seq ?_
  refine CW.seq ?_
  refine CW.region ?_
  refine RL.y rfl (y_mov (by conv => lhs; whnf)) ?_
  refine RL.call rfl (l01Next_any hX1.1 (by omega)) ?_
  rintro r w2 ⟨n, rfl, ⟨hn0, hn1, -⟩, hD2⟩
  replace hn1 := hn1 (by omega)
  have hX2 := hX1.trans hD2
  obtain ⟨k0, rfl⟩ := Int.eq_ofNat_of_zero_le hn0
  refine RL.y rfl (y_asg (v := .int _ _) rfl) ?_
  refine RL.nil ?_
  refine Fin.next ?_
  refine CW.block ?_
  refine CW.loop (fun q E w' => ∃ (k : Nat) (vo : Value) (ns : List Int), k = q ∧ k + ns.length ≤ 5 ∧ agrees E [(0, .pointer (some ⟨b, 0, none⟩)), (3, vo), (4, .int .i64 (k : Int))] ∧ OV w' w.heap.size 2 vo (ints ns) ∧ Drawn w b w') _ (⟨k0, vo, [], rfl, by simp; omega, ⟨rfl, rfl, rfl, trivial⟩, ho1.drawn hD2 (by omega), hX2⟩) ?_
  · rintro q E w3 ⟨k, vo, ns, rfl, hkn, hag, ho3, hX3⟩
    refine CW.re _ hag rfl ?_
    refine CW.seq ?_
    refine CW.seq ?_
    refine CW.region ?_
    refine RL.y rfl (y_mov (v := .int _ _) rfl) ?_
    refine RL.y rfl (y_gt rfl rfl) ?_
    refine RL.nil ?_
    refine Fin.next ?_
    refine CW.cond rfl rfl (fun hc => ?_) (fun hc => ?_)
    · with_reducible first | (replace hc := deNF hc) | (replace hc := of_decide_eq_true hc) | (replace hc := of_decide_eq_false hc) | (replace hc := deNT hc) | (replace hc := deNN hc) | (replace hc := bnT hc) | (replace hc := bnF hc) | skip
      refine CW.skip ?_
      refine Fin.next ?_
      refine CW.seq ?_
      refine CW.block ?_
      refine CW.region ?_
      refine RL.y rfl (y_mov (by conv => lhs; whnf)) ?_
      refine RL.y rfl (y_mov (by conv => lhs; whnf)) ?_
      refine RL.call rfl (l06DrawProfile_any hX3.1) ?_
      rintro r w4 ⟨x, rfl, -, hD4⟩
      refine RL.y rfl (y_mov (by conv => lhs; whnf)) ?_
      refine RL.call rfl (l01Next_any hD4.1 (by omega)) ?_
      rintro r w5 ⟨y, rfl, -, hD5⟩
      have hD35 := hD4.trans hD5
      have hX5 := hX3.trans hD35
      have ho5 := ho3.drawn hD35 (by omega)
      refine RL.y rfl (y_or rfl rfl rfl) ?_
      refine RL.app1i rfl rfl sT32 (by omega) ho5 (by omega) hX5.size rfl (fun _ => rfl) (fun u v6 w6 ho6 hg6 hn6 => ?_)
      refine RL.y rfl (y_asg (by conv => lhs; whnf)) ?_
      refine RL.nil ?_
      refine Fin.blockNormal ?_
      refine Fin.next ?_
      refine CW.region ?_
      refine RL.y rfl (y_mov (v := .int _ _) rfl) ?_
      refine RL.y rfl (y_sub rfl rfl (IntWalk.i64_in _ (by omega))) ?_
      refine RL.y rfl (y_asg (v := .int _ _) rfl) ?_
      refine RL.nil ?_
      refine Fin.le ?_
      exact ⟨k - 1, by omega, k - 1, v6, _, rfl, by simp; omega, ⟨rfl, rfl, by rw [show ((k - 1 : Nat) : Int) = (k : Int) - 1 from by omega]; rfl, trivial⟩, ho6, hX5.grown (by omega) hg6 (fun k hk => (ho5.lt _ hk).1)⟩
    · with_reducible first | (replace hc := deNF hc) | (replace hc := of_decide_eq_true hc) | (replace hc := of_decide_eq_false hc) | (replace hc := deNT hc) | (replace hc := deNN hc) | (replace hc := bnT hc) | (replace hc := bnF hc) | skip
      refine CW.exit ?_
      refine Fin.thenExit ?_
      refine Fin.thenExit ?_
      refine Fin.blockHit ?_
      refine Fin.next ?_
      refine CW.seq ?_
      refine CW.seq ?_
      refine CW.region ?_
      refine RL.y rfl (y_mov (by conv => lhs; whnf)) ?_
      refine RL.call rfl (l01Next_any hX3.1 (by omega)) ?_
      rintro r w4 ⟨z, rfl, -, hD4⟩
      have hX4 := hX3.trans hD4
      have ho4 := ho3.drawn hD4 (by omega)
      refine RL.y rfl (y_eq rfl rfl) ?_
      refine RL.nil ?_
      refine Fin.next ?_
      refine CW.cond rfl rfl (fun h2 => ?_) (fun h2 => ?_)
      · with_reducible first | (replace h2 := deNF h2) | (replace h2 := of_decide_eq_true h2) | (replace h2 := of_decide_eq_false h2) | (replace h2 := deNT h2) | (replace h2 := deNN h2) | (replace h2 := bnT h2) | (replace h2 := bnF h2) | skip
        refine CW.block ?_
        refine CW.loop (fun q E w' => ∃ (vo : Value) (ns : List Int), 10 - ns.length = q ∧ ns.length ≤ 10 ∧ agrees E [(0, .pointer (some ⟨b, 0, none⟩)), (3, vo)] ∧ OV w' w.heap.size 2 vo (ints ns) ∧ Drawn w b w') _ (⟨vo, ns, rfl, by omega, ⟨rfl, rfl, trivial⟩, ho4, hX4⟩) ?_
        · rintro q E w5 ⟨vo, ns, rfl, hnl, hag, ho5, hX5⟩
          refine CW.re _ hag rfl ?_
          refine CW.seq ?_
          refine CW.seq ?_
          refine CW.region ?_
          refine RL.y rfl (y_mov (by conv => lhs; whnf)) ?_
          refine RL.y rfl (y_len sT32 ho5.sv (ints_len _) rfl) ?_
          refine RL.y rfl (y_mov (by conv => lhs; whnf)) ?_
          refine RL.call rfl (l01Next_any hX5.1 (by omega)) ?_
          rintro r w6 ⟨y, rfl, ⟨hy0, hy1, -⟩, hD6⟩
          replace hy1 := hy1 (by omega)
          have hX6 := hX5.trans hD6
          have ho6 := ho5.drawn hD6 (by omega)
          refine RL.y rfl (y_add rfl rfl (IntWalk.i64_in _ (by omega))) ?_
          refine RL.y rfl (y_lt rfl rfl) ?_
          refine RL.nil ?_
          refine Fin.next ?_
          refine CW.cond rfl rfl (fun h3 => ?_) (fun h3 => ?_)
          · with_reducible first | (replace h3 := deNF h3) | (replace h3 := of_decide_eq_true h3) | (replace h3 := of_decide_eq_false h3) | (replace h3 := deNT h3) | (replace h3 := deNN h3) | (replace h3 := bnT h3) | (replace h3 := bnF h3) | skip
            refine CW.skip ?_
            refine Fin.next ?_
            refine CW.block ?_
            refine CW.region ?_
            refine RL.y rfl (y_mov (by conv => lhs; whnf)) ?_
            refine RL.app1i rfl rfl sT32 (by omega) ho6 (by omega) hX6.size rfl (fun _ => rfl) (fun u v7 w7 ho7 hg7 hn7 => ?_)
            refine RL.y rfl (y_asg (by conv => lhs; whnf)) ?_
            refine RL.nil ?_
            refine Fin.blockNormal ?_
            refine Fin.le ?_
            exact ⟨10 - (ns ++ [7]).length, by simp; omega, v7, _, rfl, by simp; omega, ⟨rfl, rfl, trivial⟩, ho7, hX6.grown (by omega) hg7 (fun k hk => (ho6.lt _ hk).1)⟩
          · with_reducible first | (replace h3 := deNF h3) | (replace h3 := of_decide_eq_true h3) | (replace h3 := of_decide_eq_false h3) | (replace h3 := deNT h3) | (replace h3 := deNN h3) | (replace h3 := bnT h3) | (replace h3 := bnF h3) | skip
            refine CW.exit ?_
            refine Fin.thenExit ?_
            refine Fin.thenExit ?_
            refine Fin.blockHit ?_
            refine Fin.next ?_
            refine CW.seq ?_
            refine CW.region ?_
            refine RL.y rfl (y_mov (by conv => lhs; whnf)) ?_
            refine RL.y rfl (y_asg (by conv => lhs; whnf)) ?_
            refine RL.nil ?_
            refine Fin.next ?_
            refine CW.ret ?_
            refine Fin.ret1 rfl (by conv => lhs; whnf) ?_
            exact ⟨_, rfl, ns, ho6, by omega, hX6⟩
      · with_reducible first | (replace h2 := deNF h2) | (replace h2 := of_decide_eq_true h2) | (replace h2 := of_decide_eq_false h2) | (replace h2 := deNT h2) | (replace h2 := deNN h2) | (replace h2 := bnT h2) | (replace h2 := bnF h2) | skip
        refine CW.skip ?_
        refine Fin.next ?_
        refine CW.seq ?_
        refine CW.region ?_
        refine RL.y rfl (y_mov (by conv => lhs; whnf)) ?_
        refine RL.y rfl (y_asg (by conv => lhs; whnf)) ?_
        refine RL.nil ?_
        refine Fin.next ?_
        refine CW.ret ?_
        refine Fin.ret1 rfl (by conv => lhs; whnf) ?_
        exact ⟨_, rfl, ns, ho4, by omega, hX4⟩

theorem DrawEntersWay_any {w : World} {v : Value} {l : List UInt8} (hv : SV w v (byts l)) :
    Does Try.prog 35 #[v] w (fun r w' => ∃ x y, r = .tuple #[.int .i64 x, .int .i64 y] ∧ Ext w w') := by
  refine enter Try.func35 rfl 21 Try.ntmps35 rfl (by kernel_rfl) ?_
  refine CW.seq ?_
  refine CW.region ?_
  refine RL.y rfl (y_asg rfl) ?_
  refine RL.y rfl (y_asg rfl) ?_
  refine RL.nil ?_
  refine Fin.next ?_
  refine CW.seq ?_
  refine CW.region ?_
  refine RL.y rfl (y_mov (by conv => lhs; whnf)) ?_
  refine RL.call rfl (l01From_any hv) ?_
  rintro r w1 ⟨rfl, hS1, hE1⟩
  refine RL.y rfl (y_asg (by conv => lhs; whnf)) ?_
  refine RL.nil ?_
  refine Fin.next ?_
  refine CW.seq ?_
  refine CW.region ?_
  refine RL.y rfl (y_mov (by conv => lhs; whnf)) ?_
  refine RL.call rfl (l06DrawProfile_any hS1) ?_
  rintro r w2 ⟨x, rfl, -, hD2⟩
  refine RL.y rfl (y_asg (v := .int _ _) rfl) ?_
  refine RL.nil ?_
  refine Fin.next ?_
  refine CW.seq ?_
  refine CW.seq ?_
  refine CW.region ?_
  refine RL.y rfl (y_mov (by conv => lhs; whnf)) ?_
  refine RL.call rfl (l01Next_any hD2.1 (by omega)) ?_
  rintro r w3 ⟨z, rfl, -, hD3⟩
  have hX3 := hD2.trans hD3
  refine RL.y rfl (y_eq rfl rfl) ?_
  refine RL.nil ?_
  refine Fin.next ?_
  refine CW.cond rfl rfl (fun h1 => ?_) (fun h1 => ?_)
  · with_reducible first | (replace h1 := deNF h1) | (replace h1 := of_decide_eq_true h1) | (replace h1 := of_decide_eq_false h1) | (replace h1 := deNT h1) | (replace h1 := deNN h1) | (replace h1 := bnT h1) | (replace h1 := bnF h1) | skip
    refine CW.seq ?_
    refine CW.region ?_
    refine RL.y rfl (y_mov (v := .int _ _) rfl) ?_
    refine RL.y rfl (y_mov (by conv => lhs; whnf)) ?_
    refine RL.call rfl (l01Next_any hD3.1 (by omega)) ?_
    rintro r w4 ⟨y, rfl, -, hD4⟩
    refine RL.y rfl (y_and rfl rfl rfl) ?_
    refine RL.y rfl (y_mov (v := .int _ _) rfl) ?_
    refine RL.y rfl (y_asg (v := .int _ _) rfl) ?_
    refine RL.y rfl (y_asg (v := .int _ _) rfl) ?_
    refine RL.nil ?_
    refine Fin.next ?_
    refine CW.ret ?_
    refine Fin.thenRet ?_
    refine Fin.ret2 rfl (by conv => lhs; whnf) (by conv => lhs; whnf) ?_
    exact ⟨_, rfl, _, x, rfl, (hX3.trans hD4).own hE1 (Nat.le_refl _)⟩
  · with_reducible first | (replace h1 := deNF h1) | (replace h1 := of_decide_eq_true h1) | (replace h1 := of_decide_eq_false h1) | (replace h1 := deNT h1) | (replace h1 := deNN h1) | (replace h1 := bnT h1) | (replace h1 := bnF h1) | skip
    refine CW.skip ?_
    refine Fin.next ?_
    refine CW.seq ?_
    refine CW.region ?_
    refine RL.y rfl (y_mov (by conv => lhs; whnf)) ?_
    refine RL.call rfl (l06DrawProfile_any hD3.1) ?_
    rintro r w4 ⟨y, rfl, -, hD4⟩
    refine RL.y rfl (y_mov (v := .int _ _) rfl) ?_
    refine RL.y rfl (y_asg (v := .int _ _) rfl) ?_
    refine RL.y rfl (y_asg (v := .int _ _) rfl) ?_
    refine RL.nil ?_
    refine Fin.next ?_
    refine CW.ret ?_
    refine Fin.ret2 rfl (by conv => lhs; whnf) (by conv => lhs; whnf) ?_
    exact ⟨_, rfl, y, x, rfl, (hX3.trans hD4).own hE1 (Nat.le_refl _)⟩

theorem DrawWaysOf_any {w : World} {v : Value} {l : List UInt8} (hv : SV w v (byts l)) :
    Does Try.prog 34 #[v] w (fun r w' => ∃ x v1 ns, r = .tuple #[.int .i64 x, v1] ∧ OV w' w.heap.size 2 v1 (ints ns) ∧ ns.length ≤ 10 ∧ Ext w w') := by
  refine enter Try.func34 rfl 18 Try.ntmps34 rfl (by kernel_rfl) ?_
  refine CW.seq ?_
  refine CW.region ?_
  refine RL.y rfl (y_asg rfl) ?_
  refine RL.y rfl (y_asg rfl) ?_
  refine RL.nil ?_
  refine Fin.next ?_
  refine CW.seq ?_
  refine CW.region ?_
  refine RL.y rfl (y_mov (by conv => lhs; whnf)) ?_
  refine RL.call rfl (l01From_any hv) ?_
  rintro r w1 ⟨rfl, hS1, hE1⟩
  have hs1 := hE1.size
  refine RL.y rfl (y_asg (by conv => lhs; whnf)) ?_
  refine RL.nil ?_
  refine Fin.next ?_
  refine CW.seq ?_
  refine CW.region ?_
  refine RL.y rfl (y_mov (by conv => lhs; whnf)) ?_
  refine RL.call rfl (l06DrawProfile_any hS1) ?_
  rintro r w2 ⟨x, rfl, -, hD2⟩
  refine RL.y rfl (y_asg (v := .int _ _) rfl) ?_
  refine RL.nil ?_
  refine Fin.next ?_
  refine CW.seq ?_
  refine CW.seq ?_
  refine CW.region ?_
  refine RL.y rfl (y_mov (by conv => lhs; whnf)) ?_
  refine RL.call rfl (l01Next_any hD2.1 (by omega)) ?_
  rintro r w3 ⟨z, rfl, -, hD3⟩
  have hX3 := hD2.trans hD3
  have hs3 := hX3.size
  refine RL.y rfl (y_eq rfl rfl) ?_
  refine RL.nil ?_
  refine Fin.next ?_
  refine CW.cond rfl rfl (fun h1 => ?_) (fun h1 => ?_)
  · with_reducible first | (replace h1 := deNF h1) | (replace h1 := of_decide_eq_true h1) | (replace h1 := of_decide_eq_false h1) | (replace h1 := deNT h1) | (replace h1 := deNN h1) | (replace h1 := bnT h1) | (replace h1 := bnF h1) | skip
    refine CW.region ?_
    refine RL.y rfl (y_mov (by conv => lhs; whnf)) ?_
    refine RL.call rfl (l01Next_any hD3.1 (by omega)) ?_
    rintro r w4 ⟨y, rfl, -, hD4⟩
    have hX4 := hX3.trans hD4
    have hs4 := hX4.size
    refine RL.y rfl (y_asg (v := .int _ _) rfl) ?_
    refine RL.nil ?_
    refine Fin.next ?_
    refine CW.seq ?_
    refine CW.region ?_
    refine RL.y rfl (y_mov (v := .int _ _) rfl) ?_
    refine RL.y rfl (y_mov (by conv => lhs; whnf)) ?_
    refine RL.call rfl (l06DrawWays_any hD4.1) ?_
    rintro v5 w5 ⟨ns, ho5, hl, hD5⟩
    refine RL.y rfl (y_asg (v := .int _ _) rfl) ?_
    refine RL.y rfl (y_asg (by conv => lhs; whnf)) ?_
    refine RL.nil ?_
    refine Fin.next ?_
    refine CW.ret ?_
    refine Fin.ret2 rfl (by conv => lhs; whnf) (by conv => lhs; whnf) ?_
    exact ⟨_, rfl, y, _, ns, rfl, ho5.mono (by omega), hl, (hX4.trans hD5).own hE1 (Nat.le_refl _)⟩
  · with_reducible first | (replace h1 := deNF h1) | (replace h1 := of_decide_eq_true h1) | (replace h1 := of_decide_eq_false h1) | (replace h1 := deNT h1) | (replace h1 := deNN h1) | (replace h1 := bnT h1) | (replace h1 := bnF h1) | skip
    refine CW.skip ?_
    refine Fin.next ?_
    refine CW.seq ?_
    refine CW.region ?_
    refine RL.y rfl (y_mov (v := .int _ _) rfl) ?_
    refine RL.y rfl (y_mov (by conv => lhs; whnf)) ?_
    refine RL.call rfl (l06DrawWays_any hD3.1) ?_
    rintro v5 w5 ⟨ns, ho5, hl, hD5⟩
    refine RL.y rfl (y_asg (v := .int _ _) rfl) ?_
    refine RL.y rfl (y_asg (by conv => lhs; whnf)) ?_
    refine RL.nil ?_
    refine Fin.next ?_
    refine CW.ret ?_
    refine Fin.ret2 rfl (by conv => lhs; whnf) (by conv => lhs; whnf) ?_
    exact ⟨_, rfl, x, _, ns, rfl, ho5.mono (by omega), hl, (hX3.trans hD5).own hE1 (Nat.le_refl _)⟩

theorem DrawCountBlanks_any {w : World} {v : Value} {l : List UInt8} (hv : SV w v (byts l)) :
    Does Try.prog 43 #[v] w (fun r w' => ∃ x, r = .int .i64 x ∧ Ext w w') := by
  refine enter Try.func43 rfl 6 Try.ntmps43 rfl (by kernel_rfl) ?_
  refine CW.seq ?_
  refine CW.region ?_
  refine RL.y rfl (y_asg rfl) ?_
  refine RL.nil ?_
  refine Fin.next ?_
  refine CW.seq ?_
  refine CW.region ?_
  refine RL.y rfl (y_mov (by conv => lhs; whnf)) ?_
  refine RL.call rfl (l01From_any hv) ?_
  rintro r w1 ⟨rfl, hS1, hE1⟩
  refine RL.call rfl (l06DrawProfile_any hS1) ?_
  rintro r w2 ⟨x, rfl, -, hD2⟩
  refine RL.y rfl (y_asg (v := .int _ _) rfl) ?_
  refine RL.nil ?_
  refine Fin.next ?_
  refine CW.ret ?_
  refine Fin.ret1 rfl (by conv => lhs; whnf) ?_
  exact ⟨_, rfl, x, rfl, hD2.own hE1 (Nat.le_refl _)⟩

theorem DrawProfileText_any {w : World} {v : Value} {l : List UInt8} (hv : SV w v (byts l)) :
    Does Try.prog 36 #[v] w (fun r w' => ∃ x, r = .int .i64 x ∧ Ext w w') := by
  refine enter Try.func36 rfl 6 Try.ntmps36 rfl (by kernel_rfl) ?_
  refine CW.seq ?_
  refine CW.region ?_
  refine RL.y rfl (y_asg rfl) ?_
  refine RL.nil ?_
  refine Fin.next ?_
  refine CW.seq ?_
  refine CW.region ?_
  refine RL.y rfl (y_mov (by conv => lhs; whnf)) ?_
  refine RL.call rfl (l01From_any hv) ?_
  rintro r w1 ⟨rfl, hS1, hE1⟩
  refine RL.call rfl (l06DrawProfile_any hS1) ?_
  rintro r w2 ⟨x, rfl, -, hD2⟩
  refine RL.y rfl (y_asg (v := .int _ _) rfl) ?_
  refine RL.nil ?_
  refine Fin.next ?_
  refine CW.ret ?_
  refine Fin.ret1 rfl (by conv => lhs; whnf) ?_
  exact ⟨_, rfl, x, rfl, hD2.own hE1 (Nat.le_refl _)⟩

theorem DrawExactBlank_any {w : World} {v : Value} {l : List UInt8} (hv : SV w v (byts l)) :
    Does Try.prog 42 #[v] w (fun r w' => ∃ v1 v2 ns ms, r = .tuple #[v1, v2] ∧ OV w' w.heap.size 2 v1 (ints ns) ∧ OV w' w.heap.size 2 v2 (ints ms) ∧ (ns.length ≤ 10 ∧ ms.length ≤ 11) ∧ Ext w w') := by
  refine enter Try.func42 rfl 46 Try.ntmps42 rfl (by kernel_rfl) ?_
  refine CW.seq ?_
  refine CW.region ?_
  refine RL.y rfl (y_asg rfl) ?_
  refine RL.y rfl (y_asg rfl) ?_
  refine RL.nil ?_
  refine Fin.next ?_
  refine CW.seq ?_
  refine CW.region ?_
  refine RL.y rfl (y_mov (by conv => lhs; whnf)) ?_
  refine RL.call rfl (l01From_any hv) ?_
  rintro r w1 ⟨rfl, hS1, hE1⟩
  have hs1 := hE1.size
  have hlt := hS1.lt
  refine RL.y rfl (y_asg (by conv => lhs; whnf)) ?_
  refine RL.nil ?_
  refine Fin.next ?_
  refine CW.seq ?_
  refine CW.region ?_
  refine RL.y rfl (y_mov (by conv => lhs; whnf)) ?_
  refine RL.call rfl (l06DrawWays_any hS1) ?_
  rintro v2 w2 ⟨ns, ho2, hl, hD2⟩
  have hs2 := hD2.size
  refine RL.y rfl (y_asg (by conv => lhs; whnf)) ?_
  refine RL.nil ?_
  refine Fin.next ?_
  refine CW.cut (fun E w' => agrees E [(4, .pointer (some ⟨w.heap.size, 0, none⟩)), (5, v2)] ∧ Drawn w2 w.heap.size w') ?_ ?_
  · refine CW.seq ?_
    refine CW.region ?_
    refine RL.y rfl (y_mov (by conv => lhs; whnf)) ?_
    refine RL.call rfl (l06Ways_any ho2.sv) ?_
    rintro r w3 ⟨rfl, rfl⟩
    refine RL.y rfl (y_mov (v := .bool _) rfl) ?_
    refine RL.split (t := 14) rfl rfl (fun h1 => ?_) (fun h1 => ?_)
    · with_reducible first | (replace h1 := deNF h1) | (replace h1 := of_decide_eq_true h1) | (replace h1 := of_decide_eq_false h1) | (replace h1 := deNT h1) | (replace h1 := deNN h1) | (replace h1 := bnT h1) | (replace h1 := bnF h1) | skip
      refine RL.take (t := 14) rfl rfl rfl ?_
      refine RL.y rfl (y_mov (by conv => lhs; whnf)) ?_
      refine RL.take (t := 14) rfl rfl rfl ?_
      refine RL.call rfl (l01Next_any hD2.1 (by omega)) ?_
      rintro r w3 ⟨z, rfl, -, hD3⟩
      have hs3 := hD3.size
      refine RL.take (t := 14) rfl rfl rfl ?_
      refine RL.y rfl (y_eq rfl rfl) ?_
      refine RL.y rfl (y_pickT (v := .bool _) rfl rfl) ?_
      refine RL.nil ?_
      refine Fin.next ?_
      refine CW.cond rfl rfl (fun h2 => ?_) (fun h2 => ?_)
      · with_reducible first | (replace h2 := deNF h2) | (replace h2 := of_decide_eq_true h2) | (replace h2 := of_decide_eq_false h2) | (replace h2 := deNT h2) | (replace h2 := deNN h2) | (replace h2 := bnT h2) | (replace h2 := bnF h2) | skip
        refine CW.seq ?_
        refine CW.region ?_
        refine RL.y rfl (y_mov (by conv => lhs; whnf)) ?_
        refine RL.y rfl (y_mov (by conv => lhs; whnf)) ?_
        refine RL.call rfl (l01Next_any hD3.1 (by omega)) ?_
        rintro r w4 ⟨y, rfl, -, hD4⟩
        have hD24 := hD3.trans hD4
        have ho4 := ho2.drawn hD24 (by omega)
        have hs4 := hD24.size
        refine RL.y rfl (y_mov (by conv => lhs; whnf)) ?_
        refine RL.call rfl (l06Of_any ho4.sv (by omega)) ?_
        rintro v5 w5 ⟨ho5, hE5⟩
        have hle : (waysOf y ns).length ≤ ns.length := idxs_le _ _
        refine RL.y rfl (y_asg (by conv => lhs; whnf)) ?_
        refine RL.y rfl (y_asg (by conv => lhs; whnf)) ?_
        refine RL.nil ?_
        refine Fin.next ?_
        refine CW.ret ?_
        refine Fin.thenRet ?_
        refine Fin.ret2 rfl (by conv => lhs; whnf) (by conv => lhs; whnf) ?_
        exact ⟨_, rfl, _, _, ns, _, rfl, (ho4.ext hE5).mono (by omega), ho5.mono (by omega), ⟨hl, by omega⟩, ((hD2.trans hD24).ext hE5).own hE1 (Nat.le_refl _)⟩
      · with_reducible first | (replace h2 := deNF h2) | (replace h2 := of_decide_eq_true h2) | (replace h2 := of_decide_eq_false h2) | (replace h2 := deNT h2) | (replace h2 := deNN h2) | (replace h2 := bnT h2) | (replace h2 := bnF h2) | skip
        refine CW.skip ?_
        refine Fin.le ?_
        exact ⟨⟨rfl, rfl, trivial⟩, hD3⟩
    · with_reducible first | (replace h1 := deNF h1) | (replace h1 := of_decide_eq_true h1) | (replace h1 := of_decide_eq_false h1) | (replace h1 := deNT h1) | (replace h1 := deNN h1) | (replace h1 := bnT h1) | (replace h1 := bnF h1) | skip
      refine RL.pass (t := 14) rfl rfl rfl rfl ?_
      refine RL.pass (t := 14) rfl rfl rfl rfl ?_
      refine RL.pass (t := 14) rfl rfl rfl rfl ?_
      refine RL.y rfl (y_pickF (v := .bool _) rfl rfl) ?_
      refine RL.nil ?_
      refine Fin.next ?_
      refine CW.condF rfl rfl ?_
      refine CW.skip ?_
      refine Fin.le ?_
      exact ⟨⟨rfl, rfl, trivial⟩, Drawn.refl hD2.1⟩
  · rintro E w3 ⟨hag, hD3⟩
    refine CW.re _ hag rfl ?_
    have hX3 := hD2.trans hD3
    have hs3 := hX3.size
    refine CW.seq ?_
    refine CW.region ?_
    refine RL.lit0 rfl sT32 (fun vo w4 ho4 hE4 hb4 => ?_)
    refine RL.y rfl (y_asg (by conv => lhs; whnf)) ?_
    refine RL.nil ?_
    refine Fin.next ?_
    refine CW.seq ?_
    refine CW.seq ?_
    refine CW.region ?_
    refine RL.y rfl (y_asg rfl) ?_
    refine RL.nil ?_
    refine Fin.next ?_
    refine CW.block ?_
    refine CW.loop (fun q E w' => ∃ (i : Nat) (vo : Value) (ms : List Int), ns.length - i = q ∧ i ≤ ns.length ∧ agrees E [(4, .pointer (some ⟨w.heap.size, 0, none⟩)), (5, v2), (6, vo), (7, .int .i64 (i : Int))] ∧ OV w' w3.heap.size 2 vo (ints ms) ∧ ms.length ≤ i ∧ Drawn w3 w.heap.size w') _ (⟨0, vo, [], rfl, Nat.zero_le _, ⟨rfl, rfl, rfl, rfl, trivial⟩, ho4, by simp, (Drawn.refl hX3.1).ext hE4⟩) ?_
    · rintro q E w5 ⟨i, vo, ms, rfl, hi, hag, ho5, hml, hX5⟩
      refine CW.re _ hag rfl ?_
      have hs5 := hX5.size
      refine CW.seq ?_
      refine CW.seq ?_
      refine CW.region ?_
      refine RL.y rfl (y_mov (v := .int _ _) rfl) ?_
      refine RL.y rfl (y_mov (by conv => lhs; whnf)) ?_
      refine RL.y rfl (y_len sT32 (ho2.drawn (hD3.trans hX5) (by omega)).sv (ints_len _) rfl) ?_
      refine RL.y rfl (y_lt rfl rfl) ?_
      refine RL.nil ?_
      refine Fin.next ?_
      refine CW.cond rfl rfl (fun hc => ?_) (fun hc => ?_)
      · with_reducible first | (replace hc := deNF hc) | (replace hc := of_decide_eq_true hc) | (replace hc := of_decide_eq_false hc) | (replace hc := deNT hc) | (replace hc := deNN hc) | (replace hc := bnT hc) | (replace hc := bnF hc) | skip
        refine CW.skip ?_
        refine Fin.next ?_
        refine CW.seq ?_
        refine CW.block ?_
        refine CW.seq ?_
        refine CW.region ?_
        refine RL.y rfl (y_mov (by conv => lhs; whnf)) ?_
        refine RL.call rfl (l01Next_any hX5.1 (by omega)) ?_
        rintro r w6 ⟨y, rfl, -, hD6⟩
        have hX6 := hX5.trans hD6
        have ho6 := ho5.drawn hD6 (by omega)
        refine RL.y rfl (y_eq rfl rfl) ?_
        refine RL.nil ?_
        refine Fin.next ?_
        refine CW.cond rfl rfl (fun h3 => ?_) (fun h3 => ?_)
        · with_reducible first | (replace h3 := deNF h3) | (replace h3 := of_decide_eq_true h3) | (replace h3 := of_decide_eq_false h3) | (replace h3 := deNT h3) | (replace h3 := deNN h3) | (replace h3 := bnT h3) | (replace h3 := bnF h3) | skip
          refine CW.region ?_
          refine RL.y rfl (y_mov (by conv => lhs; whnf)) ?_
          refine RL.y rfl (y_mov (v := .int _ _) rfl) ?_
          refine RL.app1i rfl rfl sT32 (by omega) ho6 (by omega) hX6.size rfl (fun _ => rfl) (fun u v7 w7 ho7 hg7 hn7 => ?_)
          refine RL.y rfl (y_asg (by conv => lhs; whnf)) ?_
          refine RL.nil ?_
          refine Fin.blockNormal ?_
          refine Fin.next ?_
          refine CW.region ?_
          refine RL.y rfl (y_mov (v := .int _ _) rfl) ?_
          refine RL.y rfl (y_add rfl rfl (IntWalk.i64_in _ (by omega))) ?_
          refine RL.y rfl (y_asg (v := .int _ _) rfl) ?_
          refine RL.nil ?_
          refine Fin.le ?_
          exact ⟨ns.length - (i + 1), by omega, i + 1, v7, _, rfl, by omega, ⟨rfl, rfl, rfl, rfl, trivial⟩, ho7, by simp; omega, hX6.grown (by omega) hg7 (fun k hk => (ho6.lt _ hk).1)⟩
        · with_reducible first | (replace h3 := deNF h3) | (replace h3 := of_decide_eq_true h3) | (replace h3 := of_decide_eq_false h3) | (replace h3 := deNT h3) | (replace h3 := deNN h3) | (replace h3 := bnT h3) | (replace h3 := bnF h3) | skip
          refine CW.skip ?_
          refine Fin.blockNormal ?_
          refine Fin.next ?_
          refine CW.region ?_
          refine RL.y rfl (y_mov (v := .int _ _) rfl) ?_
          refine RL.y rfl (y_add rfl rfl (IntWalk.i64_in _ (by omega))) ?_
          refine RL.y rfl (y_asg (v := .int _ _) rfl) ?_
          refine RL.nil ?_
          refine Fin.le ?_
          exact ⟨ns.length - (i + 1), by omega, i + 1, vo, ms, rfl, by omega, ⟨rfl, rfl, rfl, rfl, trivial⟩, ho6, by omega, hX6⟩
      · with_reducible first | (replace hc := deNF hc) | (replace hc := of_decide_eq_true hc) | (replace hc := of_decide_eq_false hc) | (replace hc := deNT hc) | (replace hc := deNN hc) | (replace hc := bnT hc) | (replace hc := bnF hc) | skip
        refine CW.exit ?_
        refine Fin.thenExit ?_
        refine Fin.thenExit ?_
        refine Fin.blockHit ?_
        refine Fin.next ?_
        refine CW.seq ?_
        refine CW.seq ?_
        refine CW.region ?_
        refine RL.y rfl (y_mov (by conv => lhs; whnf)) ?_
        refine RL.call rfl (l01Next_any hX5.1 (by omega)) ?_
        rintro r w6 ⟨y, rfl, -, hD6⟩
        have hX6 := hX5.trans hD6
        have ho6 := ho5.drawn hD6 (by omega)
        refine RL.y rfl (y_eq rfl rfl) ?_
        refine RL.nil ?_
        refine Fin.next ?_
        refine CW.cond rfl rfl (fun h4 => ?_) (fun h4 => ?_)
        · with_reducible first | (replace h4 := deNF h4) | (replace h4 := of_decide_eq_true h4) | (replace h4 := of_decide_eq_false h4) | (replace h4 := deNT h4) | (replace h4 := deNN h4) | (replace h4 := bnT h4) | (replace h4 := bnF h4) | skip
          refine CW.region ?_
          refine RL.y rfl (y_mov (by conv => lhs; whnf)) ?_
          refine RL.app1i rfl rfl sT32 (by omega) ho6 (by omega) hX6.size rfl (fun _ => rfl) (fun u v7 w7 ho7 hg7 hn7 => ?_)
          have hX7 := hX6.grown (by omega) hg7 (fun k hk => (ho6.lt _ hk).1)
          refine RL.y rfl (y_asg (by conv => lhs; whnf)) ?_
          refine RL.nil ?_
          refine Fin.next ?_
          refine CW.seq ?_
          refine CW.region ?_
          refine RL.y rfl (y_mov (by conv => lhs; whnf)) ?_
          refine RL.y rfl (y_mov (by conv => lhs; whnf)) ?_
          refine RL.y rfl (y_asg (by conv => lhs; whnf)) ?_
          refine RL.y rfl (y_asg (by conv => lhs; whnf)) ?_
          refine RL.nil ?_
          refine Fin.next ?_
          refine CW.ret ?_
          refine Fin.ret2 rfl (by conv => lhs; whnf) (by conv => lhs; whnf) ?_
          exact ⟨_, rfl, _, _, ns, _, rfl, (ho2.drawn (hD3.trans hX7) (by omega)).mono (by omega), ho7.mono (by omega), ⟨hl, by simp; omega⟩, (hX3.trans hX7).own hE1 (Nat.le_refl _)⟩
        · with_reducible first | (replace h4 := deNF h4) | (replace h4 := of_decide_eq_true h4) | (replace h4 := of_decide_eq_false h4) | (replace h4 := deNT h4) | (replace h4 := deNN h4) | (replace h4 := bnT h4) | (replace h4 := bnF h4) | skip
          refine CW.skip ?_
          refine Fin.next ?_
          refine CW.seq ?_
          refine CW.region ?_
          refine RL.y rfl (y_mov (by conv => lhs; whnf)) ?_
          refine RL.y rfl (y_mov (by conv => lhs; whnf)) ?_
          refine RL.y rfl (y_asg (by conv => lhs; whnf)) ?_
          refine RL.y rfl (y_asg (by conv => lhs; whnf)) ?_
          refine RL.nil ?_
          refine Fin.next ?_
          refine CW.ret ?_
          refine Fin.ret2 rfl (by conv => lhs; whnf) (by conv => lhs; whnf) ?_
          exact ⟨_, rfl, _, _, ns, ms, rfl, (ho2.drawn (hD3.trans hX6) (by omega)).mono (by omega), ho6.mono (by omega), ⟨hl, by omega⟩, (hX3.trans hX6).own hE1 (Nat.le_refl _)⟩
end Go.Proofs.Ytgfaimkbedbanaa
