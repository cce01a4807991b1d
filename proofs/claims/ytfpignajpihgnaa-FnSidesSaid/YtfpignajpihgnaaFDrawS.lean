/-
  Drawn side codes.
-/
import Derived.Test.YtfpignajpihgnaaFDraw
import Derived.Test.YtfpignajpihgnaaFSide3
import Derived.Test.YtfpignajpihgnaaCut2
namespace Go.Proofs.Ytfpignajpihgnaa
open B Go.RowKit

theorem l07DrawSystem_any {w : World} {b : Nat} (hs : Src w b) :
    Does Try.prog 65 #[.pointer (some ⟨b, 0, none⟩)] w (fun r w' => ∃ x y : Int, r = .tuple #[.int .i64 x, .int .i64 y] ∧ ((0 ≤ x ∧ x ≤ 6) ∧ (1 ≤ y ∧ y ≤ 6)) ∧ Drawn w b w') := by
  have hbw := hs.lt
  refine enter Try.func65 rfl 26 Try.ntmps65 rfl (by kernel_rfl) ?_
  refine CW.seq ?_
  refine CW.region ?_
  refine RL.y rfl (y_asg rfl) ?_
  refine RL.y rfl (y_asg rfl) ?_
  refine RL.nil ?_
  refine Fin.next ?_
  refine CW.seq ?_
  refine CW.region ?_
  refine RL.y rfl (y_mov (by conv => lhs; whnf)) ?_
  refine RL.call rfl (l01Next_any hs (by omega)) ?_
  rintro r w1 ⟨a, rfl, ⟨ha0, ha1, -⟩, hD1⟩
  replace ha1 := ha1 (by omega)
  refine RL.y rfl (y_add rfl rfl (IntWalk.i64_in _ (by omega))) ?_
  refine RL.y rfl (y_mov (by conv => lhs; whnf)) ?_
  refine RL.call rfl (l01Next_any hD1.1 (by omega)) ?_
  rintro r w2 ⟨c, rfl, ⟨hc0, hc1, -⟩, hD2⟩
  replace hc1 := hc1 (by omega)
  have hD02 := hD1.trans hD2
  refine RL.y rfl (y_add rfl rfl (IntWalk.i64_in _ (by omega))) ?_
  refine RL.y rfl (y_asg (v := .int _ _) rfl) ?_
  refine RL.y rfl (y_asg (v := .int _ _) rfl) ?_
  refine RL.nil ?_
  refine Fin.next ?_
  refine CW.seq ?_
  refine CW.seq ?_
  refine CW.region ?_
  refine RL.y rfl (y_mov (by conv => lhs; whnf)) ?_
  refine RL.call rfl (l01Next_any hD2.1 (by omega)) ?_
  rintro r w3 ⟨z, rfl, -, hD3⟩
  have hD03 := hD02.trans hD3
  have hs3 := hD03.size
  refine RL.nil ?_
  refine Fin.next ?_
  refine CW.block ?_
  refine CW.seq ?_
  refine CW.region ?_
  refine RL.y rfl (y_eq rfl rfl) ?_
  refine RL.y rfl (y_asg (v := .bool _) rfl) ?_
  refine RL.nil ?_
  refine Fin.next ?_
  refine CW.cond rfl rfl (fun h1 => ?_) (fun h1 => ?_)
  · with_reducible first | (replace h1 := deNF h1) | (replace h1 := of_decide_eq_true h1) | (replace h1 := of_decide_eq_false h1) | (replace h1 := deNT h1) | (replace h1 := deNN h1) | (replace h1 := bnT h1) | (replace h1 := bnF h1) | skip
    refine CW.region ?_
    refine RL.y rfl (y_mov (by conv => lhs; whnf)) ?_
    refine RL.lits [.int .i64 0, .int .i64 5, .int .i64 6] rfl sT25 rfl (by omega) (by simp [Value.oneCell']) rfl (fun vq w4 hoq hE4 hbq => ?_)
    have hX4 := hD03.ext hE4
    refine RL.call rfl (l01Pick_any (xs := [0, 5, 6]) hX4.1 hoq.sv (by simp) (fun x hx => by have := (hoq.lt x hx).1; omega)) ?_
    rintro r w5 ⟨y, rfl, hy, hD5⟩
    have hyb : 0 ≤ y ∧ y ≤ 6 := by simp at hy; omega
    refine RL.y rfl (y_asg (v := .int _ _) rfl) ?_
    refine RL.nil ?_
    refine Fin.blockNormal ?_
    refine Fin.next ?_
    refine CW.seq ?_
    refine CW.region ?_
    refine RL.y rfl (y_mov (v := .int _ _) rfl) ?_
    refine RL.y rfl (y_mov (v := .int _ _) rfl) ?_
    refine RL.y rfl (y_asg (v := .int _ _) rfl) ?_
    refine RL.y rfl (y_asg (v := .int _ _) rfl) ?_
    refine RL.nil ?_
    refine Fin.next ?_
    refine CW.ret ?_
    refine Fin.ret2 rfl (by conv => lhs; whnf) (by conv => lhs; whnf) ?_
    exact ⟨_, rfl, y, 2 + c, rfl, ⟨hyb, by omega⟩, hX4.trans hD5⟩
  · with_reducible first | (replace h1 := deNF h1) | (replace h1 := of_decide_eq_true h1) | (replace h1 := of_decide_eq_false h1) | (replace h1 := deNT h1) | (replace h1 := deNN h1) | (replace h1 := bnT h1) | (replace h1 := bnF h1) | skip
    refine CW.seq ?_
    refine CW.region ?_
    refine RL.y rfl (y_eq rfl rfl) ?_
    refine RL.y rfl (y_asg (v := .bool _) rfl) ?_
    refine RL.nil ?_
    refine Fin.next ?_
    refine CW.cond rfl rfl (fun h2 => ?_) (fun h2 => ?_)
    · with_reducible first | (replace h2 := deNF h2) | (replace h2 := of_decide_eq_true h2) | (replace h2 := of_decide_eq_false h2) | (replace h2 := deNT h2) | (replace h2 := deNN h2) | (replace h2 := bnT h2) | (replace h2 := bnF h2) | skip
      refine CW.region ?_
      refine RL.y rfl (y_mov (by conv => lhs; whnf)) ?_
      refine RL.lits [.int .i64 1, .int .i64 5, .int .i64 6] rfl sT25 rfl (by omega) (by simp [Value.oneCell']) rfl (fun vq w4 hoq hE4 hbq => ?_)
      have hX4 := hD03.ext hE4
      refine RL.call rfl (l01Pick_any (xs := [1, 5, 6]) hX4.1 hoq.sv (by simp) (fun x hx => by have := (hoq.lt x hx).1; omega)) ?_
      rintro r w5 ⟨y, rfl, hy, hD5⟩
      have hyb : 1 ≤ y ∧ y ≤ 6 := by simp at hy; omega
      refine RL.y rfl (y_asg (v := .int _ _) rfl) ?_
      refine RL.nil ?_
      refine Fin.blockNormal ?_
      refine Fin.next ?_
      refine CW.seq ?_
      refine CW.region ?_
      refine RL.y rfl (y_mov (v := .int _ _) rfl) ?_
      refine RL.y rfl (y_mov (v := .int _ _) rfl) ?_
      refine RL.y rfl (y_asg (v := .int _ _) rfl) ?_
      refine RL.y rfl (y_asg (v := .int _ _) rfl) ?_
      refine RL.nil ?_
      refine Fin.next ?_
      refine CW.ret ?_
      refine Fin.ret2 rfl (by conv => lhs; whnf) (by conv => lhs; whnf) ?_
      exact ⟨_, rfl, 1 + a, y, rfl, ⟨by omega, hyb⟩, hX4.trans hD5⟩
    · with_reducible first | (replace h2 := deNF h2) | (replace h2 := of_decide_eq_true h2) | (replace h2 := of_decide_eq_false h2) | (replace h2 := deNT h2) | (replace h2 := deNN h2) | (replace h2 := bnT h2) | (replace h2 := bnF h2) | skip
      refine CW.skip ?_
      refine Fin.blockNormal ?_
      refine Fin.next ?_
      refine CW.seq ?_
      refine CW.region ?_
      refine RL.y rfl (y_mov (v := .int _ _) rfl) ?_
      refine RL.y rfl (y_mov (v := .int _ _) rfl) ?_
      refine RL.y rfl (y_asg (v := .int _ _) rfl) ?_
      refine RL.y rfl (y_asg (v := .int _ _) rfl) ?_
      refine RL.nil ?_
      refine Fin.next ?_
      refine CW.ret ?_
      refine Fin.ret2 rfl (by conv => lhs; whnf) (by conv => lhs; whnf) ?_
      exact ⟨_, rfl, 1 + a, 2 + c, rfl, ⟨by omega, by omega⟩, hD03⟩

theorem l07DrawCode_any {w : World} {b : Nat} {s v : Int} (hs : Src w b) (h6 : s ≤ 6) (hv : 0 ≤ v ∧ v ≤ 100) :
    Does Try.prog 66 #[.pointer (some ⟨b, 0, none⟩), .int .i64 s, .int .i64 v] w (fun v' w' => ∃ ns, OV w' w.heap.size 2 v' (ints ns) ∧ ns.length ≤ 7 ∧ Drawn w b w') := by
  have hbw := hs.lt
  refine enter Try.func66 rfl 40 Try.ntmps66 rfl (by kernel_rfl) ?_
  refine CW.seq ?_
  refine CW.region ?_
  refine RL.y rfl (y_asg rfl) ?_
  refine RL.nil ?_
  refine Fin.next ?_
  refine CW.seq ?_
  refine CW.region ?_
  refine RL.lit0 rfl sT25 (fun vo w1 ho1 hE1 hb1 => ?_)
  refine RL.y rfl (y_asg (by conv => lhs; whnf)) ?_
  refine RL.nil ?_
  refine Fin.next ?_
  refine CW.seq ?_
  refine CW.seq ?_
  refine CW.region ?_
  refine RL.y rfl (y_asg rfl) ?_
  refine RL.nil ?_
  refine Fin.next ?_
  refine CW.block ?_
  refine CW.loop (fun m E w' => ∃ (i : Nat) (vo : Value) (ns : List Int), m = s.toNat - i ∧ i ≤ s.toNat ∧ agrees E [(0, .pointer (some ⟨b, 0, none⟩)), (1, .int .i64 s), (2, .int .i64 v), (7, vo), (8, .int .i64 (i : Int))] ∧ OV w' w.heap.size 2 vo (ints ns) ∧ ns.length = i ∧ Drawn w b w') _ (⟨0, vo, [], rfl, Nat.zero_le _, ⟨rfl, rfl, rfl, rfl, rfl, trivial⟩, ho1, rfl, (Drawn.refl hs).ext hE1⟩) ?_
  · rintro m E w2 ⟨i, vo, ns, rfl, hi, hag, ho2, hnl, hD2⟩
    refine CW.re _ hag rfl ?_
    refine CW.seq ?_
    refine CW.seq ?_
    refine CW.region ?_
    refine RL.y rfl (y_mov (v := .int _ _) rfl) ?_
    refine RL.y rfl (y_mov (v := .int _ _) rfl) ?_
    refine RL.y rfl (y_lt rfl rfl) ?_
    refine RL.nil ?_
    refine Fin.next ?_
    refine CW.cond rfl rfl (fun hc => ?_) (fun hc => ?_)
    · with_reducible first | (replace hc := deNF hc) | (replace hc := of_decide_eq_true hc) | (replace hc := of_decide_eq_false hc) | (replace hc := deNT hc) | (replace hc := deNN hc) | (replace hc := bnT hc) | (replace hc := bnF hc) | skip
      refine CW.skip ?_
      refine Fin.next ?_
      refine CW.seq ?_
      refine CW.block ?_
      refine CW.region ?_
      refine RL.y rfl (y_mov (by conv => lhs; whnf)) ?_
      refine RL.y rfl (y_mov (by conv => lhs; whnf)) ?_
      refine RL.y rfl (y_mov (v := .int _ _) rfl) ?_
      refine RL.call rfl (l01Next_any hD2.1 (by omega)) ?_
      rintro r w3 ⟨x, rfl, -, hD3⟩
      have hD13 := hD2.trans hD3
      have ho3 := ho2.drawn hD3 (by omega)
      refine RL.app1i rfl rfl sT25 (by omega) ho3 (by omega) hD13.size rfl (fun _ => rfl) (fun u v4 w4 ho4 hg4 hn4 => ?_)
      refine RL.y rfl (y_asg (by conv => lhs; whnf)) ?_
      refine RL.nil ?_
      refine Fin.blockNormal ?_
      refine Fin.next ?_
      refine CW.region ?_
      refine RL.y rfl (y_mov (v := .int _ _) rfl) ?_
      refine RL.y rfl (y_add rfl rfl (IntWalk.i64_in _ (by omega))) ?_
      refine RL.y rfl (y_asg (v := .int _ _) rfl) ?_
      refine RL.nil ?_
      refine Fin.le ?_
      exact ⟨s.toNat - (i + 1), by omega, i + 1, v4, _, rfl, by omega, ⟨rfl, rfl, rfl, rfl, rfl, trivial⟩, ho4, by simp; omega, hD13.grown (by omega) hg4 (fun k hk => (ho3.lt _ hk).1)⟩
    · with_reducible first | (replace hc := deNF hc) | (replace hc := of_decide_eq_true hc) | (replace hc := of_decide_eq_false hc) | (replace hc := deNT hc) | (replace hc := deNN hc) | (replace hc := bnT hc) | (replace hc := bnF hc) | skip
      refine CW.exit ?_
      refine Fin.thenExit ?_
      refine Fin.thenExit ?_
      refine Fin.blockHit ?_
      refine Fin.next ?_
      refine CW.seq ?_
      refine CW.seq ?_
      refine CW.region ?_
      refine RL.y rfl (y_mov (by conv => lhs; whnf)) ?_
      refine RL.call rfl (l01Next_any hD2.1 (by omega)) ?_
      rintro r w3 ⟨x, rfl, -, hD3⟩
      have hD13 := hD2.trans hD3
      have ho3 := ho2.drawn hD3 (by omega)
      refine RL.nil ?_
      refine Fin.next ?_
      refine CW.block ?_
      refine CW.seq ?_
      refine CW.region ?_
      refine RL.y rfl (y_eq rfl rfl) ?_
      refine RL.y rfl (y_asg (v := .bool _) rfl) ?_
      refine RL.nil ?_
      refine Fin.next ?_
      refine CW.cond rfl rfl (fun h1 => ?_) (fun h1 => ?_)
      · with_reducible first | (replace h1 := deNF h1) | (replace h1 := of_decide_eq_true h1) | (replace h1 := of_decide_eq_false h1) | (replace h1 := deNT h1) | (replace h1 := deNN h1) | (replace h1 := bnT h1) | (replace h1 := bnF h1) | skip
        refine CW.seq ?_
        refine CW.region ?_
        refine RL.y rfl (y_mov (by conv => lhs; whnf)) ?_
        refine RL.app1i rfl rfl sT25 (by omega) ho3 (by omega) hD13.size rfl (fun _ => rfl) (fun u v4 w4 ho4 hg4 hn4 => ?_)
        refine RL.y rfl (y_asg (by conv => lhs; whnf)) ?_
        refine RL.nil ?_
        refine Fin.next ?_
        refine CW.ret ?_
        refine Fin.blockRet ?_
        refine Fin.thenRet ?_
        refine Fin.ret1 rfl (by conv => lhs; whnf) ?_
        exact ⟨_, rfl, _, ho4, by simp; omega, hD13.grown (by omega) hg4 (fun k hk => (ho3.lt _ hk).1)⟩
      · with_reducible first | (replace h1 := deNF h1) | (replace h1 := of_decide_eq_true h1) | (replace h1 := of_decide_eq_false h1) | (replace h1 := deNT h1) | (replace h1 := deNN h1) | (replace h1 := bnT h1) | (replace h1 := bnF h1) | skip
        refine CW.seq ?_
        refine CW.region ?_
        refine RL.y rfl (y_eq rfl rfl) ?_
        refine RL.y rfl (y_asg (v := .bool _) rfl) ?_
        refine RL.nil ?_
        refine Fin.next ?_
        refine CW.cond rfl rfl (fun h2 => ?_) (fun h2 => ?_)
        · with_reducible first | (replace h2 := deNF h2) | (replace h2 := of_decide_eq_true h2) | (replace h2 := of_decide_eq_false h2) | (replace h2 := deNT h2) | (replace h2 := deNN h2) | (replace h2 := bnT h2) | (replace h2 := bnF h2) | skip
          refine CW.seq ?_
          refine CW.region ?_
          refine RL.y rfl (y_mov (by conv => lhs; whnf)) ?_
          refine RL.y rfl (y_len sT25 ho3.sv (ints_len _) rfl) ?_
          refine RL.y rfl (y_gt rfl rfl) ?_
          refine RL.nil ?_
          refine Fin.next ?_
          refine CW.cond rfl rfl (fun h3 => ?_) (fun h3 => ?_)
          · with_reducible first | (replace h3 := deNF h3) | (replace h3 := of_decide_eq_true h3) | (replace h3 := of_decide_eq_false h3) | (replace h3 := deNT h3) | (replace h3 := deNN h3) | (replace h3 := bnT h3) | (replace h3 := bnF h3) | skip
            have hl0 : 0 < ns.length := by omega
            have hs3 := hD13.size
            refine CW.region ?_
            refine RL.y rfl (y_mov (by conv => lhs; whnf)) ?_
            refine RL.y rfl (y_mov (by conv => lhs; whnf)) ?_
            refine RL.y rfl (y_mov (v := .int _ _) rfl) ?_
            refine RL.lit2 rfl sT25 rfl rfl rfl rfl (fun vq w4 hoq hE4 hbq => ?_)
            have hX4 := hD13.ext hE4
            refine RL.call rfl (l01Pick_any (xs := [-1, v]) hX4.1 hoq.sv (by simp) (fun x hx => by have := (hoq.lt x hx).1; omega)) ?_
            rintro r w5 ⟨y, rfl, -, hD5⟩
            have hX5 := hX4.trans hD5
            have ho5 := (ho3.ext hE4).drawn hD5 (by omega)
            refine RL.y rfl (y_ixa sT25 (eqw (ho5.sv)) (k := 0) (ints_lt hl0) rfl rfl) ?_
            refine RL.store sT25 ho5 (k := 0) (x := .int .i64 y) (ints_lt hl0) rfl rfl rfl (fun w6 ho6 hg6 => ?_)
            refine RL.nil ?_
            refine Fin.blockNormal ?_
            refine Fin.next ?_
            refine CW.seq ?_
            refine CW.region ?_
            refine RL.y rfl (y_mov (by conv => lhs; whnf)) ?_
            refine RL.y rfl (y_asg (by conv => lhs; whnf)) ?_
            refine RL.nil ?_
            refine Fin.next ?_
            refine CW.ret ?_
            refine Fin.ret1 rfl (by conv => lhs; whnf) ?_
            exact ⟨_, rfl, ns.set 0 y, by rw [ints_set] at ho6; exact ho6, by simp; omega, hX5.grown (by omega) hg6 (fun k hk => (ho5.lt _ hk).1)⟩
          · with_reducible first | (replace h3 := deNF h3) | (replace h3 := of_decide_eq_true h3) | (replace h3 := of_decide_eq_false h3) | (replace h3 := deNT h3) | (replace h3 := deNN h3) | (replace h3 := bnT h3) | (replace h3 := bnF h3) | skip
            refine CW.skip ?_
            refine Fin.blockNormal ?_
            refine Fin.next ?_
            refine CW.seq ?_
            refine CW.region ?_
            refine RL.y rfl (y_mov (by conv => lhs; whnf)) ?_
            refine RL.y rfl (y_asg (by conv => lhs; whnf)) ?_
            refine RL.nil ?_
            refine Fin.next ?_
            refine CW.ret ?_
            refine Fin.ret1 rfl (by conv => lhs; whnf) ?_
            exact ⟨_, rfl, ns, ho3, by omega, hD13⟩
        · with_reducible first | (replace h2 := deNF h2) | (replace h2 := of_decide_eq_true h2) | (replace h2 := of_decide_eq_false h2) | (replace h2 := deNT h2) | (replace h2 := deNN h2) | (replace h2 := bnT h2) | (replace h2 := bnF h2) | skip
          refine CW.skip ?_
          refine Fin.blockNormal ?_
          refine Fin.next ?_
          refine CW.seq ?_
          refine CW.region ?_
          refine RL.y rfl (y_mov (by conv => lhs; whnf)) ?_
          refine RL.y rfl (y_asg (by conv => lhs; whnf)) ?_
          refine RL.nil ?_
          refine Fin.next ?_
          refine CW.ret ?_
          refine Fin.ret1 rfl (by conv => lhs; whnf) ?_
          exact ⟨_, rfl, ns, ho3, by omega, hD13⟩

theorem l07DrawDistance_any {w : World} {b : Nat} {s : Int} (hs : Src w b) (h6 : 0 ≤ s ∧ s ≤ 6) :
    Does Try.prog 67 #[.pointer (some ⟨b, 0, none⟩), .int .i64 s] w (fun r w' => ∃ x : Int, r = .int .i64 x ∧ (0 ≤ x ∧ x ≤ 7) ∧ Drawn w b w') := by
  have hbw := hs.lt
  refine enter Try.func67 rfl 18 Try.ntmps67 rfl (by kernel_rfl) ?_
  refine CW.seq ?_
  refine CW.region ?_
  refine RL.y rfl (y_asg rfl) ?_
  refine RL.nil ?_
  refine Fin.next ?_
  refine CW.seq ?_
  refine CW.seq ?_
  refine CW.region ?_
  refine RL.y rfl (y_mov (by conv => lhs; whnf)) ?_
  refine RL.call rfl (l01Next_any hs (by omega)) ?_
  rintro r w1 ⟨a, rfl, -, hD1⟩
  have hs1 := hD1.size
  refine RL.y rfl (y_eq rfl rfl) ?_
  refine RL.nil ?_
  refine Fin.next ?_
  refine CW.cond rfl rfl (fun h1 => ?_) (fun h1 => ?_)
  · with_reducible first | (replace h1 := deNF h1) | (replace h1 := of_decide_eq_true h1) | (replace h1 := of_decide_eq_false h1) | (replace h1 := deNT h1) | (replace h1 := deNN h1) | (replace h1 := bnT h1) | (replace h1 := bnF h1) | skip
    refine CW.seq ?_
    refine CW.region ?_
    refine RL.y rfl (y_mov (by conv => lhs; whnf)) ?_
    refine RL.y rfl (y_mov (v := .int _ _) rfl) ?_
    refine RL.y rfl (y_mov (v := .int _ _) rfl) ?_
    refine RL.y rfl (y_add rfl rfl (IntWalk.i64_in _ (by omega))) ?_
    refine RL.lits [.int .i64 0, .int .i64 s, .int .i64 (s + 1)] rfl sT25 rfl (by omega) (by simp [Value.oneCell']) rfl (fun vq w2 hoq hE2 hbq => ?_)
    have hX2 := hD1.ext hE2
    refine RL.call rfl (l01Pick_any (xs := [0, s, s + 1]) hX2.1 hoq.sv (by simp) (fun x hx => by have := (hoq.lt x hx).1; omega)) ?_
    rintro r w3 ⟨y, rfl, hy, hD3⟩
    have hyb : 0 ≤ y ∧ y ≤ 7 := by simp at hy; omega
    refine RL.y rfl (y_asg (v := .int _ _) rfl) ?_
    refine RL.nil ?_
    refine Fin.next ?_
    refine CW.ret ?_
    refine Fin.thenRet ?_
    refine Fin.ret1 rfl (by conv => lhs; whnf) ?_
    exact ⟨_, rfl, y, rfl, hyb, hX2.trans hD3⟩
  · with_reducible first | (replace h1 := deNF h1) | (replace h1 := of_decide_eq_true h1) | (replace h1 := of_decide_eq_false h1) | (replace h1 := deNT h1) | (replace h1 := deNN h1) | (replace h1 := bnT h1) | (replace h1 := bnF h1) | skip
    refine CW.skip ?_
    refine Fin.next ?_
    refine CW.seq ?_
    refine CW.region ?_
    refine RL.y rfl (y_mov (by conv => lhs; whnf)) ?_
    refine RL.y rfl (y_mov (v := .int _ _) rfl) ?_
    refine RL.call rfl (l01Next_any hD1.1 (by omega)) ?_
    rintro r w2 ⟨c, rfl, ⟨hc0, hc1, hc2⟩, hD2⟩
    have hcb : 1 + c ≤ 7 := by rcases Int.lt_or_le 1 s with h | h; (have := hc1 (by omega); omega); (have := hc2 h; omega)
    refine RL.y rfl (y_add rfl rfl (IntWalk.i64_in _ (by omega))) ?_
    refine RL.y rfl (y_asg (v := .int _ _) rfl) ?_
    refine RL.nil ?_
    refine Fin.next ?_
    refine CW.ret ?_
    refine Fin.ret1 rfl (by conv => lhs; whnf) ?_
    exact ⟨_, rfl, 1 + c, rfl, ⟨by omega, hcb⟩, hD1.trans hD2⟩

theorem DrawIsSideCode_any {w : World} {v : Value} {l : List UInt8} (hv : SV w v (byts l)) :
    Does Try.prog 42 #[v] w (fun r w' => ∃ x y v1 ns, r = .tuple #[.int .i64 x, .int .i64 y, v1] ∧ OV w' w.heap.size 2 v1 (ints ns) ∧ ns.length ≤ 7 ∧ ((0 ≤ x ∧ x ≤ 6) ∧ (1 ≤ y ∧ y ≤ 6)) ∧ Ext w w') := by
  refine enter Try.func42 rfl 21 Try.ntmps42 rfl (by kernel_rfl) ?_
  refine CW.seq ?_
  refine CW.region ?_
  refine RL.y rfl (y_asg rfl) ?_
  refine RL.y rfl (y_asg rfl) ?_
  refine RL.y rfl (y_asg rfl) ?_
  refine RL.nil ?_
  refine Fin.next ?_
  refine CW.seq ?_
  refine CW.region ?_
  refine RL.y rfl (y_mov (by conv => lhs; whnf)) ?_
  refine RL.call rfl (l01From_any hv) ?_
  rintro r w1 ⟨rfl, hS1, hE1⟩
  refine RL.y rfl (y_asg (by conv => lhs; whnf)) ?_
  refine RL.nil ?_
  refine Fin.next ?_
  refine CW.seq ?_
  refine CW.region ?_
  refine RL.y rfl (y_mov (by conv => lhs; whnf)) ?_
  refine RL.call rfl (l07DrawSystem_any hS1) ?_
  rintro r w2 ⟨x, y, rfl, hb, hD2⟩
  have hs1 := hE1.size
  have hs2 := hD2.size
  refine RL.y rfl (y_mov (by conv => lhs; whnf)) ?_
  refine RL.y rfl (y_ext0 rfl) ?_
  refine RL.y rfl (y_ext1 rfl) ?_
  refine RL.y rfl (y_asg (v := .int _ _) rfl) ?_
  refine RL.y rfl (y_asg (v := .int _ _) rfl) ?_
  refine RL.nil ?_
  refine Fin.next ?_
  refine CW.seq ?_
  refine CW.region ?_
  refine RL.y rfl (y_mov (v := .int _ _) rfl) ?_
  refine RL.y rfl (y_mov (v := .int _ _) rfl) ?_
  refine RL.y rfl (y_mov (by conv => lhs; whnf)) ?_
  refine RL.y rfl (y_mov (v := .int _ _) rfl) ?_
  refine RL.y rfl (y_mov (v := .int _ _) rfl) ?_
  refine RL.call rfl (l07DrawCode_any hD2.1 (by omega) (by omega)) ?_
  rintro v3 w3 ⟨ns, ho3, hl, hD3⟩
  refine RL.y rfl (y_asg (v := .int _ _) rfl) ?_
  refine RL.y rfl (y_asg (v := .int _ _) rfl) ?_
  refine RL.y rfl (y_asg (by conv => lhs; whnf)) ?_
  refine RL.nil ?_
  refine Fin.next ?_
  refine CW.ret ?_
  refine Fin.ret3 rfl (by conv => lhs; whnf) (by conv => lhs; whnf) (by conv => lhs; whnf) ?_
  exact ⟨_, rfl, x, y, _, ns, rfl, ho3.mono (by omega), hl, hb, (hD2.trans hD3).own hE1 (Nat.le_refl _)⟩

theorem DrawCountSideCodes_any {w : World} {v : Value} {l : List UInt8} (hv : SV w v (byts l)) :
    Does Try.prog 40 #[v] w (fun r w' => ∃ x y, r = .tuple #[.int .i64 x, .int .i64 y] ∧ ((0 ≤ x ∧ x ≤ 6) ∧ (1 ≤ y ∧ y ≤ 6)) ∧ Ext w w') := by
  refine enter Try.func40 rfl 9 Try.ntmps40 rfl (by kernel_rfl) ?_
  refine CW.seq ?_
  refine CW.region ?_
  refine RL.y rfl (y_asg rfl) ?_
  refine RL.y rfl (y_asg rfl) ?_
  refine RL.nil ?_
  refine Fin.next ?_
  refine CW.seq ?_
  refine CW.region ?_
  refine RL.y rfl (y_mov (by conv => lhs; whnf)) ?_
  refine RL.call rfl (l01From_any hv) ?_
  rintro r w1 ⟨rfl, hS1, hE1⟩
  refine RL.call rfl (l07DrawSystem_any hS1) ?_
  rintro r w2 ⟨x, y, rfl, hb, hD2⟩
  refine RL.y rfl (y_ext0 rfl) ?_
  refine RL.y rfl (y_ext1 rfl) ?_
  refine RL.y rfl (y_asg (v := .int _ _) rfl) ?_
  refine RL.y rfl (y_asg (v := .int _ _) rfl) ?_
  refine RL.nil ?_
  refine Fin.next ?_
  refine CW.ret ?_
  refine Fin.ret2 rfl (by conv => lhs; whnf) (by conv => lhs; whnf) ?_
  exact ⟨_, rfl, x, y, rfl, hb, hD2.own hE1 (Nat.le_refl _)⟩

theorem DrawSideDistance_any {w : World} {v : Value} {l : List UInt8} (hv : SV w v (byts l)) :
    Does Try.prog 39 #[v] w (fun r w' => ∃ x y v1 v2 ns ms, r = .tuple #[.int .i64 x, .int .i64 y, v1, v2] ∧ OV w' w.heap.size 2 v1 (ints ns) ∧ OV w' w.heap.size 2 v2 (ints ms) ∧ (ns.length ≤ 7 ∧ ms.length ≤ 7) ∧ ((0 ≤ x ∧ x ≤ 6) ∧ (1 ≤ y ∧ y ≤ 6)) ∧ Ext w w') := by
  refine enter Try.func39 rfl 28 Try.ntmps39 rfl (by kernel_rfl) ?_
  refine CW.seq ?_
  refine CW.region ?_
  refine RL.y rfl (y_asg rfl) ?_
  refine RL.y rfl (y_asg rfl) ?_
  refine RL.y rfl (y_asg rfl) ?_
  refine RL.y rfl (y_asg rfl) ?_
  refine RL.nil ?_
  refine Fin.next ?_
  refine CW.seq ?_
  refine CW.region ?_
  refine RL.y rfl (y_mov (by conv => lhs; whnf)) ?_
  refine RL.call rfl (l01From_any hv) ?_
  rintro r w1 ⟨rfl, hS1, hE1⟩
  refine RL.y rfl (y_asg (by conv => lhs; whnf)) ?_
  refine RL.nil ?_
  refine Fin.next ?_
  refine CW.seq ?_
  refine CW.region ?_
  refine RL.y rfl (y_mov (by conv => lhs; whnf)) ?_
  refine RL.call rfl (l07DrawSystem_any hS1) ?_
  rintro r w2 ⟨x, y, rfl, hb, hD2⟩
  have hs1 := hE1.size
  have hs2 := hD2.size
  have hlt := hS1.lt
  refine RL.y rfl (y_mov (by conv => lhs; whnf)) ?_
  refine RL.y rfl (y_ext0 rfl) ?_
  refine RL.y rfl (y_ext1 rfl) ?_
  refine RL.y rfl (y_asg (v := .int _ _) rfl) ?_
  refine RL.y rfl (y_asg (v := .int _ _) rfl) ?_
  refine RL.nil ?_
  refine Fin.next ?_
  refine CW.seq ?_
  refine CW.region ?_
  refine RL.y rfl (y_mov (by conv => lhs; whnf)) ?_
  refine RL.y rfl (y_mov (v := .int _ _) rfl) ?_
  refine RL.y rfl (y_mov (v := .int _ _) rfl) ?_
  refine RL.call rfl (l07DrawCode_any hD2.1 (by omega) (by omega)) ?_
  rintro v3 w3 ⟨ns, ho3, hl, hD3⟩
  have hs3 := hD3.size
  refine RL.y rfl (y_asg (by conv => lhs; whnf)) ?_
  refine RL.nil ?_
  refine Fin.next ?_
  refine CW.seq ?_
  refine CW.region ?_
  refine RL.y rfl (y_mov (v := .int _ _) rfl) ?_
  refine RL.y rfl (y_mov (v := .int _ _) rfl) ?_
  refine RL.y rfl (y_mov (by conv => lhs; whnf)) ?_
  refine RL.y rfl (y_mov (by conv => lhs; whnf)) ?_
  refine RL.y rfl (y_mov (v := .int _ _) rfl) ?_
  refine RL.y rfl (y_mov (v := .int _ _) rfl) ?_
  refine RL.call rfl (l07DrawCode_any hD3.1 (by omega) (by omega)) ?_
  rintro v4 w4 ⟨ms, ho4, hl4, hD4⟩
  refine RL.y rfl (y_asg (v := .int _ _) rfl) ?_
  refine RL.y rfl (y_asg (v := .int _ _) rfl) ?_
  refine RL.y rfl (y_asg (by conv => lhs; whnf)) ?_
  refine RL.y rfl (y_asg (by conv => lhs; whnf)) ?_
  refine RL.nil ?_
  refine Fin.next ?_
  refine CW.ret ?_
  refine Fin.ret4 rfl (by conv => lhs; whnf) (by conv => lhs; whnf) (by conv => lhs; whnf) (by conv => lhs; whnf) ?_
  exact ⟨_, rfl, x, y, _, _, ns, ms, rfl, (ho3.drawn hD4 (by omega)).mono (by omega), ho4.mono (by omega), ⟨hl, hl4⟩, hb, ((hD2.trans hD3).trans hD4).own hE1 (Nat.le_refl _)⟩

theorem DrawFamiliesOf_any {w : World} {v : Value} {l : List UInt8} (hv : SV w v (byts l)) :
    Does Try.prog 45 #[v] w (fun r w' => ∃ x y d m, r = .tuple #[.int .i64 x, .int .i64 y, .int .i64 d, .int .i64 m] ∧ ((0 ≤ x ∧ x ≤ 6) ∧ (1 ≤ y ∧ y ≤ 6)) ∧ (-1 ≤ m ∧ m ≤ 61) ∧ (0 ≤ d ∧ d ≤ 7) ∧ Ext w w') := by
  refine enter Try.func45 rfl 26 Try.ntmps45 rfl (by kernel_rfl) ?_
  refine CW.seq ?_
  refine CW.region ?_
  refine RL.y rfl (y_asg rfl) ?_
  refine RL.y rfl (y_asg rfl) ?_
  refine RL.y rfl (y_asg rfl) ?_
  refine RL.y rfl (y_asg rfl) ?_
  refine RL.nil ?_
  refine Fin.next ?_
  refine CW.seq ?_
  refine CW.region ?_
  refine RL.y rfl (y_mov (by conv => lhs; whnf)) ?_
  refine RL.call rfl (l01From_any hv) ?_
  rintro r w1 ⟨rfl, hS1, hE1⟩
  refine RL.y rfl (y_asg (by conv => lhs; whnf)) ?_
  refine RL.nil ?_
  refine Fin.next ?_
  refine CW.seq ?_
  refine CW.region ?_
  refine RL.y rfl (y_mov (by conv => lhs; whnf)) ?_
  refine RL.call rfl (l07DrawSystem_any hS1) ?_
  rintro r w2 ⟨x, y, rfl, hb, hD2⟩
  have hs1 := hE1.size
  have hlt := hS1.lt
  refine RL.y rfl (y_mov (by conv => lhs; whnf)) ?_
  refine RL.y rfl (y_ext0 rfl) ?_
  refine RL.y rfl (y_ext1 rfl) ?_
  refine RL.y rfl (y_asg (v := .int _ _) rfl) ?_
  refine RL.y rfl (y_asg (v := .int _ _) rfl) ?_
  refine RL.nil ?_
  refine Fin.next ?_
  refine CW.seq ?_
  refine CW.region ?_
  refine RL.y rfl (y_mov (by conv => lhs; whnf)) ?_
  refine RL.y rfl (y_mov (v := .int _ _) rfl) ?_
  refine RL.call rfl (l07DrawDistance_any hD2.1 hb.1) ?_
  rintro r w3 ⟨d, rfl, hd, hD3⟩
  have hD13 := hD2.trans hD3
  have hs3 := hD13.size
  refine RL.y rfl (y_asg (v := .int _ _) rfl) ?_
  refine RL.nil ?_
  refine Fin.next ?_
  refine CW.seq ?_
  refine CW.region ?_
  refine RL.y rfl (y_mov (v := .int _ _) rfl) ?_
  refine RL.y rfl (y_mov (v := .int _ _) rfl) ?_
  refine RL.y rfl (y_mov (v := .int _ _) rfl) ?_
  refine RL.y rfl (y_mov (by conv => lhs; whnf)) ?_
  refine RL.lits [.int .i64 0, .int .i64 1, .int .i64 5, .int .i64 20, .int .i64 60, .int .i64 61, .int .i64 (-1)] rfl sT25 rfl (by omega) (by simp [Value.oneCell']) rfl (fun vq w4 hoq hE4 hbq => ?_)
  have hX4 := hD13.ext hE4
  refine RL.call rfl (l01Pick_any (xs := [0, 1, 5, 20, 60, 61, -1]) hX4.1 hoq.sv (by simp) (fun x hx => by have := (hoq.lt x hx).1; omega)) ?_
  rintro r w5 ⟨m, rfl, hm, hD5⟩
  have hmb : -1 ≤ m ∧ m ≤ 61 := by simp at hm; omega
  refine RL.y rfl (y_asg (v := .int _ _) rfl) ?_
  refine RL.y rfl (y_asg (v := .int _ _) rfl) ?_
  refine RL.y rfl (y_asg (v := .int _ _) rfl) ?_
  refine RL.y rfl (y_asg (v := .int _ _) rfl) ?_
  refine RL.nil ?_
  refine Fin.next ?_
  refine CW.ret ?_
  refine Fin.ret4 rfl (by conv => lhs; whnf) (by conv => lhs; whnf) (by conv => lhs; whnf) (by conv => lhs; whnf) ?_
  exact ⟨_, rfl, x, y, d, m, rfl, hb, hmb, hd, (hX4.trans hD5).own hE1 (Nat.le_refl _)⟩

theorem DrawNearestFamily_any {w : World} {v : Value} {l : List UInt8} (hv : SV w v (byts l)) :
    Does Try.prog 44 #[v] w (fun r w' => ∃ x y d v1 ns, r = .tuple #[.int .i64 x, .int .i64 y, .int .i64 d, v1] ∧ OV w' w.heap.size 2 v1 (ints ns) ∧ ns.length ≤ 7 ∧ ((0 ≤ x ∧ x ≤ 6) ∧ (1 ≤ y ∧ y ≤ 6)) ∧ (0 ≤ d ∧ d ≤ 7) ∧ Ext w w') := by
  refine enter Try.func44 rfl 27 Try.ntmps44 rfl (by kernel_rfl) ?_
  refine CW.seq ?_
  refine CW.region ?_
  refine RL.y rfl (y_asg rfl) ?_
  refine RL.y rfl (y_asg rfl) ?_
  refine RL.y rfl (y_asg rfl) ?_
  refine RL.y rfl (y_asg rfl) ?_
  refine RL.nil ?_
  refine Fin.next ?_
  refine CW.seq ?_
  refine CW.region ?_
  refine RL.y rfl (y_mov (by conv => lhs; whnf)) ?_
  refine RL.call rfl (l01From_any hv) ?_
  rintro r w1 ⟨rfl, hS1, hE1⟩
  refine RL.y rfl (y_asg (by conv => lhs; whnf)) ?_
  refine RL.nil ?_
  refine Fin.next ?_
  refine CW.seq ?_
  refine CW.region ?_
  refine RL.y rfl (y_mov (by conv => lhs; whnf)) ?_
  refine RL.call rfl (l07DrawSystem_any hS1) ?_
  rintro r w2 ⟨x, y, rfl, hb, hD2⟩
  have hs1 := hE1.size
  have hs2 := hD2.size
  refine RL.y rfl (y_mov (by conv => lhs; whnf)) ?_
  refine RL.y rfl (y_ext0 rfl) ?_
  refine RL.y rfl (y_ext1 rfl) ?_
  refine RL.y rfl (y_asg (v := .int _ _) rfl) ?_
  refine RL.y rfl (y_asg (v := .int _ _) rfl) ?_
  refine RL.nil ?_
  refine Fin.next ?_
  refine CW.seq ?_
  refine CW.region ?_
  refine RL.y rfl (y_mov (by conv => lhs; whnf)) ?_
  refine RL.y rfl (y_mov (v := .int _ _) rfl) ?_
  refine RL.call rfl (l07DrawDistance_any hD2.1 hb.1) ?_
  rintro r w3 ⟨d, rfl, hd, hD3⟩
  have hD13 := hD2.trans hD3
  have hs3 := hD3.size
  refine RL.y rfl (y_asg (v := .int _ _) rfl) ?_
  refine RL.nil ?_
  refine Fin.next ?_
  refine CW.seq ?_
  refine CW.region ?_
  refine RL.y rfl (y_mov (v := .int _ _) rfl) ?_
  refine RL.y rfl (y_mov (v := .int _ _) rfl) ?_
  refine RL.y rfl (y_mov (v := .int _ _) rfl) ?_
  refine RL.y rfl (y_mov (by conv => lhs; whnf)) ?_
  refine RL.y rfl (y_mov (v := .int _ _) rfl) ?_
  refine RL.y rfl (y_mov (v := .int _ _) rfl) ?_
  refine RL.call rfl (l07DrawCode_any hD3.1 (by omega) (by omega)) ?_
  rintro v4 w4 ⟨ns, ho4, hl4, hD4⟩
  refine RL.y rfl (y_asg (v := .int _ _) rfl) ?_
  refine RL.y rfl (y_asg (v := .int _ _) rfl) ?_
  refine RL.y rfl (y_asg (v := .int _ _) rfl) ?_
  refine RL.y rfl (y_asg (by conv => lhs; whnf)) ?_
  refine RL.nil ?_
  refine Fin.next ?_
  refine CW.ret ?_
  refine Fin.ret4 rfl (by conv => lhs; whnf) (by conv => lhs; whnf) (by conv => lhs; whnf) (by conv => lhs; whnf) ?_
  exact ⟨_, rfl, x, y, d, _, ns, rfl, ho4.mono (by omega), hl4, hb, hd, (hD13.trans hD4).own hE1 (Nat.le_refl _)⟩
end Go.Proofs.Ytfpignajpihgnaa
