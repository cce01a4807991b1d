/-
  The draws' source of numbers: l01From, l01Next, l01Pick; big, hasInt.
-/
import Derived.Test.YtebegkegkdmbjaaDoorFInts
import Derived.Test.YtebegkegkdmbjaaDoorDraw
import Derived.Test.YtebegkegkdmbjaaDoorTape
namespace Go.Proofs.YtebegkegkdmbjaaDoor
open B Go.RowKit

theorem big_any {w : World} {v : Value} {l : List UInt8} (hv : SV w v (byts l)) :
    Does Tryd.prog 11 #[v] w (fun r w' => r = .bool (decide ((4096 : Int) < l.length)) ∧ w = w') := by
  have hxl := SV.le hv
  rw [bytes_len] at hxl
  refine enter Tryd.func11 rfl 6 Tryd.ntmps11 rfl (by kernel_rfl) ?_
  refine CW.seq ?_
  refine CW.region ?_
  refine RL.y rfl (y_asg rfl) ?_
  refine RL.nil ?_
  refine Fin.next ?_
  refine CW.seq ?_
  refine CW.region ?_
  refine RL.y rfl (y_mov (by conv => lhs; whnf)) ?_
  refine RL.y rfl (y_len sT31 hv (bytes_len _) rfl) ?_
  refine RL.y rfl (y_gt rfl rfl) ?_
  refine RL.y rfl (y_asg (v := .bool _) rfl) ?_
  refine RL.nil ?_
  refine Fin.next ?_
  refine CW.ret ?_
  refine Fin.ret1 rfl (by conv => lhs; whnf) ?_
  exact ⟨_, rfl, rfl, rfl⟩


theorem l01From_any {w : World} {v : Value} {l : List UInt8} (hv : SV w v (byts l)) :
    Does Tryd.prog 33 #[v] w (fun r w' => r = .pointer (some ⟨w.heap.size, 0, none⟩) ∧ Src w' w.heap.size ∧ Ext w w') := by
  have hvl := SV.le hv
  rw [bytes_len] at hvl
  refine enter Tryd.func33 rfl 34 Tryd.ntmps33 rfl (by kernel_rfl) ?_
  refine CW.seq ?_
  refine CW.region ?_
  refine RL.y rfl (y_asg rfl) ?_
  refine RL.nil ?_
  refine Fin.next ?_
  refine CW.seq ?_
  refine CW.region ?_
  refine RL.y rfl (y_mov (by conv => lhs; whnf)) ?_
  refine RL.y rfl (y_build bd70 rfl (fill_one (slice_one hv) rfl rfl (fill_one rfl rfl rfl fill_nil))) ?_
  refine RL.box (cs := [v, .int .i64 0, .int .i64 30011]) rfl rfl rfl (fun w1 hV1 hE1 => ?_)
  have hlow : ∀ x, v.ownBlock = some x → 0 < l.length → x < w.heap.size := fun x hx h0 => hv.lt (by rw [bytes_len]; exact h0) x hx
  refine RL.y rfl (y_asg (by conv => lhs; whnf)) ?_
  refine RL.nil ?_
  refine Fin.next ?_
  refine CW.seq ?_
  refine CW.seq ?_
  refine CW.region ?_
  refine RL.y rfl (y_asg rfl) ?_
  refine RL.nil ?_
  refine Fin.next ?_
  refine CW.block ?_
  refine CW.loop (fun m E w' => ∃ (k : Nat) (sd : Int), m = l.length - k ∧ k ≤ l.length ∧ agrees E [(0, v), (3, .pointer (some ⟨w.heap.size, 0, none⟩)), (4, .int .i64 (k : Int))] ∧ VR w' w.heap.size [v, .int .i64 0, .int .i64 sd] ∧ (0 ≤ sd ∧ sd < 2147483647) ∧ Ext w w') _ (⟨0, 30011, rfl, Nat.zero_le _, ⟨rfl, rfl, rfl, trivial⟩, hV1, by omega, hE1⟩) ?_
  · rintro m E w2 ⟨k, sd, rfl, hk, hag, hV2, hsd, hE2⟩
    refine CW.re _ hag rfl ?_
    have hsrc : ∀ {w' : World} {s : Int}, VR w' w.heap.size [v, .int .i64 0, .int .i64 s] → (0 ≤ s ∧ s < 2147483647) → Ext w w' → Src w' w.heap.size := fun h1 h2 h3 => ⟨v, l, 0, _, h1, hv.ext h3, hlow, Nat.zero_le _, h2.1, h2.2⟩
    refine CW.seq ?_
    refine CW.seq ?_
    refine CW.region ?_
    refine RL.y rfl (y_mov (v := .int _ _) rfl) ?_
    refine RL.y rfl (y_mov (by conv => lhs; whnf)) ?_
    refine RL.y rfl (y_len sT31 hv (bytes_len _) rfl) ?_
    refine RL.y rfl (y_lt rfl rfl) ?_
    refine RL.y rfl (y_mov (v := .bool _) rfl) ?_
    refine RL.split (t := 12) rfl rfl (fun h1 => ?_) (fun h1 => ?_)
    · with_reducible first | (replace h1 := deNF h1) | (replace h1 := of_decide_eq_true h1) | (replace h1 := of_decide_eq_false h1) | (replace h1 := deNT h1) | (replace h1 := deNN h1) | (replace h1 := bnT h1) | (replace h1 := bnF h1) | skip
      have hlt : k < l.length := by omega
      have hbyte := UInt8.toNat_lt l[k]
      refine RL.take (t := 12) rfl rfl rfl ?_
      refine RL.y rfl (y_mov (v := .int _ _) rfl) ?_
      refine RL.take (t := 12) rfl rfl rfl ?_
      refine RL.y rfl (y_lt rfl rfl) ?_
      refine RL.y rfl (y_pickT (v := .bool _) rfl rfl) ?_
      refine RL.nil ?_
      refine Fin.next ?_
      refine CW.cond rfl rfl (fun h2 => ?_) (fun h2 => ?_)
      · with_reducible first | (replace h2 := deNF h2) | (replace h2 := of_decide_eq_true h2) | (replace h2 := of_decide_eq_false h2) | (replace h2 := deNT h2) | (replace h2 := deNN h2) | (replace h2 := bnT h2) | (replace h2 := bnF h2) | skip
        have hD0 : Drawn w2 w.heap.size w2.drew := (Drawn.refl (hsrc hV2 hsd hE2)).ext (Ext.drew _)
        refine CW.skip ?_
        refine Fin.next ?_
        refine CW.seq ?_
        refine CW.block ?_
        refine CW.tape (Drawn w2 w.heap.size) [15, 4] mixed (by kernel_rfl) (by kernel_rfl) (hD0) ?_
        refine TL.y rfl rfl (y_mov (by conv => lhs; whnf)) ?_
        refine TL.y rfl rfl (y_mov (by conv => lhs; whnf)) ?_
        refine TL.y rfl rfl (y_nil rfl) ?_
        refine TL.y rfl rfl (y_fa fa70_2 rfl rfl) ?_
        refine TL.yc rfl rfl (y_loadv sc2 (eqw (hV2.ext (Ext.drew _))) rfl rfl) ?_
        refine TL.y rfl rfl (y_mul rfl rfl (IntWalk.i64_in _ (by omega))) ?_
        refine TL.y rfl rfl (y_mov (by conv => lhs; whnf)) ?_
        refine TL.y rfl rfl (y_mov (v := .int _ _) rfl) ?_
        refine TL.y rfl rfl (y_ixa sT31 (fun _ hC => hv.mod (hE2.then_mod hC.2 (Nat.le_refl _) |>.mod 0 0) (fun _ _ _ => by omega)) (k := k) (bytes_lt hlt) rfl rfl) ?_
        refine TL.y rfl rfl (y_load sc5 (fun _ hC => hv.mod (hE2.then_mod hC.2 (Nat.le_refl _) |>.mod 0 0) (fun _ _ _ => by omega)) (bytes_at hlt) rfl) ?_
        refine TL.y rfl rfl (y_conv ⟨_, Tryd.underlying5⟩ Tryd.underlying2 rfl (IntWalk.i64_in _ (by omega))) ?_
        refine TL.y rfl rfl (y_add rfl rfl (IntWalk.i64_in _ (by omega))) ?_
        refine TL.y rfl rfl (y_rem rfl rfl (by omega) (IntWalk.rem_in _ _ (by omega))) ?_
        refine TL.y rfl rfl (y_nil rfl) ?_
        refine TL.y rfl rfl (y_fa fa70_2 rfl rfl) ?_
        refine TL.op rfl (fun hC => ?_)
        refine RL.storev so2 (hV2.ext (Ext.drew _)) (by simp) rfl rfl (rfl) (fun w3 hV3 hg3 => ?_)
        replace hV3 : VR w3 w.heap.size [v, .int .i64 0, .int .i64 ((sd * 67 + (l[k].toNat : Int)) % 2147483647)] := hV3
        have hE3 : Ext w w3 := (hE2.trans (Ext.drew _)).grown hg3 (fun b hb => by simp only [Option.some.injEq] at hb; omega)
        have hs3 : 0 ≤ (sd * 67 + (l[k].toNat : Int)) % 2147483647 ∧ (sd * 67 + (l[k].toNat : Int)) % 2147483647 < 2147483647 := by omega
        refine RL.nil ?_
        refine Fin.tl (⟨hsrc hV3 hs3 hE3, ((Ext.drew w2).mod _ _).trans (grown_mod hg3 (fun k hk => by simp only [Option.some.injEq] at hk; omega))⟩) ?_
        refine TL.nil (fun hC => ?_)
        refine Fin.blockNormal ?_
        refine Fin.next ?_
        refine CW.region ?_
        refine RL.y rfl (y_mov (v := .int _ _) rfl) ?_
        refine RL.y rfl (y_add rfl rfl (IntWalk.i64_in _ (by omega))) ?_
        refine RL.y rfl (y_asg (v := .int _ _) rfl) ?_
        refine RL.nil ?_
        refine Fin.le ?_
        exact ⟨l.length - (k + 1), by omega, k + 1, _, rfl, hlt, ⟨rfl, rfl, rfl, trivial⟩, hV3, hs3, hE3⟩
      · with_reducible first | (replace h2 := deNF h2) | (replace h2 := of_decide_eq_true h2) | (replace h2 := of_decide_eq_false h2) | (replace h2 := deNT h2) | (replace h2 := deNN h2) | (replace h2 := bnT h2) | (replace h2 := bnF h2) | skip
        refine CW.exit ?_
        refine Fin.thenExit ?_
        refine Fin.thenExit ?_
        refine Fin.blockHit ?_
        refine Fin.next ?_
        refine CW.seq ?_
        refine CW.region ?_
        refine RL.y rfl (y_mov (by conv => lhs; whnf)) ?_
        refine RL.y rfl (y_asg (by conv => lhs; whnf)) ?_
        refine RL.nil ?_
        refine Fin.next ?_
        refine CW.ret ?_
        refine Fin.ret1 rfl (by conv => lhs; whnf) ?_
        exact ⟨_, rfl, rfl, hsrc hV2 hsd hE2, hE2⟩
    · with_reducible first | (replace h1 := deNF h1) | (replace h1 := of_decide_eq_true h1) | (replace h1 := of_decide_eq_false h1) | (replace h1 := deNT h1) | (replace h1 := deNN h1) | (replace h1 := bnT h1) | (replace h1 := bnF h1) | skip
      refine RL.pass (t := 12) rfl rfl rfl rfl ?_
      refine RL.pass (t := 12) rfl rfl rfl rfl ?_
      refine RL.y rfl (y_pickF (v := .bool _) rfl rfl) ?_
      refine RL.nil ?_
      refine Fin.next ?_
      refine CW.condF rfl rfl ?_
      refine CW.exit ?_
      refine Fin.thenExit ?_
      refine Fin.thenExit ?_
      refine Fin.blockHit ?_
      refine Fin.next ?_
      refine CW.seq ?_
      refine CW.region ?_
      refine RL.y rfl (y_mov (by conv => lhs; whnf)) ?_
      refine RL.y rfl (y_asg (by conv => lhs; whnf)) ?_
      refine RL.nil ?_
      refine Fin.next ?_
      refine CW.ret ?_
      refine Fin.ret1 rfl (by conv => lhs; whnf) ?_
      exact ⟨_, rfl, rfl, hsrc hV2 hsd hE2, hE2⟩

theorem l01Next_any {w : World} {b : Nat} {n : Int} (hs : Src w b) (hn : n ≤ 9223372036854775807) :
    Does Tryd.prog 38 #[.pointer (some ⟨b, 0, none⟩), .int .i64 n] w (fun r w' => ∃ x, r = .int .i64 x ∧ (0 ≤ x ∧ (1 ≤ n → x < n) ∧ (n ≤ 1 → x = 0)) ∧ Drawn w b w') := by
  have hs0 := hs
  obtain ⟨vc, l, k, sd, hV, hc, hlow, hk, hsd0, hsd1⟩ := hs
  have hcl := SV.le hc
  rw [bytes_len] at hcl
  refine enter Tryd.func38 rfl 78 Tryd.ntmps38 rfl (by kernel_rfl) ?_
  refine CW.seq ?_
  refine CW.region ?_
  refine RL.y rfl (y_asg rfl) ?_
  refine RL.nil ?_
  refine Fin.next ?_
  refine CW.seq ?_
  refine CW.seq ?_
  refine CW.region ?_
  refine RL.y rfl (y_mov (v := .int _ _) rfl) ?_
  refine RL.y rfl (y_le rfl rfl) ?_
  refine RL.nil ?_
  refine Fin.next ?_
  refine CW.cond rfl rfl (fun h1 => ?_) (fun h1 => ?_)
  · with_reducible first | (replace h1 := deNF h1) | (replace h1 := of_decide_eq_true h1) | (replace h1 := of_decide_eq_false h1) | (replace h1 := deNT h1) | (replace h1 := deNN h1) | (replace h1 := bnT h1) | (replace h1 := bnF h1) | skip
    refine CW.seq ?_
    refine CW.region ?_
    refine RL.y rfl (y_asg rfl) ?_
    refine RL.nil ?_
    refine Fin.next ?_
    refine CW.ret ?_
    refine Fin.thenRet ?_
    refine Fin.ret1 rfl (by conv => lhs; whnf) ?_
    exact ⟨_, rfl, 0, rfl, ⟨by omega, by omega, fun _ => rfl⟩, Drawn.refl hs0⟩
  · with_reducible first | (replace h1 := deNF h1) | (replace h1 := of_decide_eq_true h1) | (replace h1 := of_decide_eq_false h1) | (replace h1 := deNT h1) | (replace h1 := deNN h1) | (replace h1 := bnT h1) | (replace h1 := bnF h1) | skip
    have hn1 : 1 < n := by omega
    refine CW.skip ?_
    refine Fin.next ?_
    refine CW.seq ?_
    refine CW.region ?_
    refine RL.y rfl (y_mov (by conv => lhs; whnf)) ?_
    refine RL.y rfl (y_mov (by conv => lhs; whnf)) ?_
    refine RL.y rfl (y_nil rfl) ?_
    refine RL.y rfl (y_fa fa70_2 rfl rfl) ?_
    refine RL.y rfl (y_loadv sc2 (eqw (hV)) rfl rfl) ?_
    refine RL.y rfl (y_mul rfl rfl (IntWalk.i64_in _ (by omega))) ?_
    refine RL.y rfl (y_add rfl rfl (IntWalk.i64_in _ (by omega))) ?_
    refine RL.y rfl (y_rem rfl rfl (by omega) (IntWalk.rem_in _ _ (by omega))) ?_
    refine RL.y rfl (y_nil rfl) ?_
    refine RL.y rfl (y_fa fa70_2 rfl rfl) ?_
    refine RL.storev so2 (hV) (by simp) rfl rfl (rfl) (fun w1 hV1 hg1 => ?_)
    replace hV1 : VR w1 b [vc, .int .i64 (k : Int), .int .i64 ((sd * 48271 + 29) % 2147483647)] := hV1
    have hs1 : 0 ≤ (sd * 48271 + 29) % 2147483647 ∧ (sd * 48271 + 29) % 2147483647 < 2147483647 := by omega
    generalize (sd * 48271 + 29) % 2147483647 = s1 at hV1 hs1
    have hc1 : SV w1 vc (byts l) := hc.keep (fun x hx h0 => hg1.block x (hc.lt h0 x hx) (fun e => by have := hlow x hx (by rwa [bytes_len] at h0); simp only [Option.some.injEq] at e; omega))
    have hM1 : Mod b (b + 1) w w1 := grown_mod hg1 (fun k hk => by simp only [Option.some.injEq] at hk; omega)
    refine RL.nil ?_
    refine Fin.next ?_
    refine CW.seq ?_
    refine CW.region ?_
    refine RL.y rfl (y_mov (by conv => lhs; whnf)) ?_
    refine RL.y rfl (y_nil rfl) ?_
    refine RL.y rfl (y_fa fa70_2 rfl rfl) ?_
    refine RL.y rfl (y_loadv sc2 (eqw (hV1)) rfl rfl) ?_
    have hq : 0 ≤ s1 / 31 ∧ s1 / 31 < 2147483647 := by omega
    generalize s1 / 31 = q1 at hq
    refine RL.y rfl (y_quo rfl rfl (by omega) (IntWalk.i64_quo _ _ (by omega))) ?_
    refine RL.y rfl (y_asg (v := .int _ _) rfl) ?_
    refine RL.nil ?_
    refine Fin.next ?_
    refine CW.seq ?_
    refine CW.seq ?_
    refine CW.quietE mixed (by kernel_rfl) ?_
    refine QL.y rfl (y_mov (by conv => lhs; whnf)) ?_
    refine QL.y rfl (y_nil rfl) ?_
    refine QL.y rfl (y_fa fa70_1 rfl rfl) ?_
    refine QL.y rfl (y_loadv sc3 (fun _ hC => (hV1).ext hC) rfl rfl) ?_
    refine QL.y rfl (y_mov (by conv => lhs; whnf)) ?_
    refine QL.y rfl (y_nil rfl) ?_
    refine QL.y rfl (y_fa fa70_0 rfl rfl) ?_
    refine QL.y rfl (y_loadv sc31 (fun _ hC => (hV1).ext hC) rfl rfl) ?_
    refine QL.y rfl (y_len sT31 hc1 (bytes_len _) rfl) ?_
    refine QL.y rfl (y_lt rfl rfl) ?_
    refine QL.nil (fun w2 hE2 => ?_)
    refine Fin.next ?_
    refine CW.cond rfl rfl (fun h2 => ?_) (fun h2 => ?_)
    · with_reducible first | (replace h2 := deNF h2) | (replace h2 := of_decide_eq_true h2) | (replace h2 := of_decide_eq_false h2) | (replace h2 := deNT h2) | (replace h2 := deNN h2) | (replace h2 := bnT h2) | (replace h2 := bnF h2) | skip
      have hlt : k < l.length := by omega
      have hbyte := UInt8.toNat_lt l[k]
      refine CW.seq ?_
      refine CW.quietE mixed (by kernel_rfl) ?_
      refine QL.y rfl (y_mov (v := .int _ _) rfl) ?_
      refine QL.y rfl (y_mov (by conv => lhs; whnf)) ?_
      refine QL.y rfl (y_nil rfl) ?_
      refine QL.y rfl (y_fa fa70_0 rfl rfl) ?_
      refine QL.y rfl (y_loadv sc31 (fun _ hC => (hV1.ext hE2).ext hC) rfl rfl) ?_
      refine QL.y rfl (y_mov (by conv => lhs; whnf)) ?_
      refine QL.y rfl (y_nil rfl) ?_
      refine QL.y rfl (y_fa fa70_1 rfl rfl) ?_
      refine QL.y rfl (y_loadv sc3 (fun _ hC => (hV1.ext hE2).ext hC) rfl rfl) ?_
      refine QL.y rfl (y_ixa sT31 (fun _ hC => (hc1.ext hE2).ext hC) (k := k) (bytes_lt hlt) rfl rfl) ?_
      refine QL.y rfl (y_load sc5 (fun _ hC => (hc1.ext hE2).ext hC) (bytes_at hlt) rfl) ?_
      refine QL.y rfl (y_conv ⟨_, Tryd.underlying5⟩ Tryd.underlying2 rfl (IntWalk.i64_in _ (by omega))) ?_
      refine QL.y rfl (y_add rfl rfl (IntWalk.i64_in _ (by omega))) ?_
      refine QL.y rfl (y_asg (v := .int _ _) rfl) ?_
      refine QL.nil (fun w3 hE3 => ?_)
      have hE23 := hE2.trans hE3
      refine Fin.next ?_
      refine CW.seq ?_
      refine CW.region ?_
      refine RL.y rfl (y_mov (by conv => lhs; whnf)) ?_
      refine RL.y rfl (y_nil rfl) ?_
      refine RL.y rfl (y_fa fa70_1 rfl rfl) ?_
      refine RL.y rfl (y_loadv sc3 (eqw (hV1.ext hE23)) rfl rfl) ?_
      refine RL.y rfl (y_add rfl rfl (IntWalk.i64_in _ (by omega))) ?_
      refine RL.y rfl (y_nil rfl) ?_
      refine RL.y rfl (y_fa fa70_1 rfl rfl) ?_
      refine RL.storev so3 (hV1.ext hE23) (by simp) rfl rfl (rfl) (fun w4 hV4 hg4 => ?_)
      replace hV4 : VR w4 b [vc, .int .i64 ((k + 1 : Nat) : Int), .int .i64 s1] := hV4
      have hc4 : SV w4 vc (byts l) := (hc1.ext hE23).keep (fun x hx h0 => hg4.block x ((hc1.ext hE23).lt h0 x hx) (fun e => by have := hlow x hx (by rwa [bytes_len] at h0); simp only [Option.some.injEq] at e; omega))
      have hM4 : Mod b (b + 1) w w4 := (hM1.trans (hE23.mod _ _)).trans (grown_mod hg4 (fun k hk => by simp only [Option.some.injEq] at hk; omega))
      have hS4 : Src w4 b := ⟨vc, l, k + 1, s1, hV4, hc4, hlow, hlt, hs1.1, hs1.2⟩
      refine RL.nil ?_
      refine Fin.next ?_
      refine CW.seq ?_
      refine CW.region ?_
      refine RL.y rfl (y_mov (v := .int _ _) rfl) ?_
      refine RL.y rfl (y_le rfl rfl) ?_
      refine RL.y rfl (y_mov (v := .bool _) rfl) ?_
      refine RL.split (t := 55) rfl rfl (fun h3 => ?_) (fun h3 => ?_)
      · with_reducible first | (replace h3 := deNF h3) | (replace h3 := of_decide_eq_true h3) | (replace h3 := of_decide_eq_false h3) | (replace h3 := deNT h3) | (replace h3 := deNN h3) | (replace h3 := bnT h3) | (replace h3 := bnF h3) | skip
        refine RL.take (t := 55) rfl rfl rfl ?_
        refine RL.y rfl (y_mov (by conv => lhs; whnf)) ?_
        refine RL.take (t := 55) rfl rfl rfl ?_
        refine RL.y rfl (y_nil rfl) ?_
        refine RL.take (t := 55) rfl rfl rfl ?_
        refine RL.y rfl (y_fa fa70_1 rfl rfl) ?_
        refine RL.take (t := 55) rfl rfl rfl ?_
        refine RL.y rfl (y_loadv sc3 (eqw (hV4)) rfl rfl) ?_
        refine RL.take (t := 55) rfl rfl rfl ?_
        refine RL.y rfl (y_rem rfl rfl (by omega) (IntWalk.rem_in _ _ (by omega))) ?_
        refine RL.take (t := 55) rfl rfl rfl ?_
        refine RL.y rfl (y_eq rfl rfl) ?_
        refine RL.y rfl (y_pickT (v := .bool _) rfl rfl) ?_
        refine RL.nil ?_
        refine Fin.next ?_
        refine CW.cond rfl rfl (fun h4 => ?_) (fun h4 => ?_)
        · with_reducible first | (replace h4 := deNF h4) | (replace h4 := of_decide_eq_true h4) | (replace h4 := of_decide_eq_false h4) | (replace h4 := deNT h4) | (replace h4 := deNN h4) | (replace h4 := bnT h4) | (replace h4 := bnF h4) | skip
          refine CW.quietE mixed (by kernel_rfl) ?_
          refine QL.y rfl (y_mov (by conv => lhs; whnf)) ?_
          refine QL.y rfl (y_nil rfl) ?_
          refine QL.y rfl (y_fa fa70_0 rfl rfl) ?_
          refine QL.y rfl (y_loadv sc31 (fun _ hC => (hV4).ext hC) rfl rfl) ?_
          refine QL.y rfl (y_mov (by conv => lhs; whnf)) ?_
          refine QL.y rfl (y_nil rfl) ?_
          refine QL.y rfl (y_fa fa70_1 rfl rfl) ?_
          refine QL.y rfl (y_loadv sc3 (fun _ hC => (hV4).ext hC) rfl rfl) ?_
          refine QL.y rfl (y_sub rfl rfl ((show IntKind.i64.wrap (((k + 1 : Nat) : Int) - 1) = ((k : Nat) : Int) by rw [IntWalk.i64_in _ (by omega)]; omega))) ?_
          refine QL.y rfl (y_ixa sT31 (fun _ hC => (hc4).ext hC) (k := k) (bytes_lt hlt) rfl rfl) ?_
          refine QL.y rfl (y_load sc5 (fun _ hC => (hc4).ext hC) (bytes_at hlt) rfl) ?_
          refine QL.y rfl (y_conv ⟨_, Tryd.underlying5⟩ Tryd.underlying2 rfl (IntWalk.i64_in _ (by omega))) ?_
          refine QL.y rfl (y_asg (v := .int _ _) rfl) ?_
          refine QL.nil (fun w5 hE5 => ?_)
          refine Fin.next ?_
          refine CW.seq ?_
          refine CW.region ?_
          refine RL.y rfl (y_mov (v := .int _ _) rfl) ?_
          refine RL.y rfl (y_mov (v := .int _ _) rfl) ?_
          refine RL.y rfl (y_rem rfl rfl (by omega) (IntWalk.rem_in _ _ (by omega))) ?_
          refine RL.y rfl (y_asg (v := .int _ _) rfl) ?_
          refine RL.nil ?_
          refine Fin.next ?_
          refine CW.ret ?_
          refine Fin.ret1 rfl (by conv => lhs; whnf) ?_
          exact ⟨_, rfl, _, rfl, mod_range hn1, hS4.ext hE5, hM4.trans (hE5.mod _ _)⟩
        · with_reducible first | (replace h4 := deNF h4) | (replace h4 := of_decide_eq_true h4) | (replace h4 := of_decide_eq_false h4) | (replace h4 := deNT h4) | (replace h4 := deNN h4) | (replace h4 := bnT h4) | (replace h4 := bnF h4) | skip
          refine CW.skip ?_
          refine Fin.next ?_
          refine CW.seq ?_
          refine CW.region ?_
          refine RL.y rfl (y_mov (v := .int _ _) rfl) ?_
          refine RL.y rfl (y_mov (v := .int _ _) rfl) ?_
          refine RL.y rfl (y_rem rfl rfl (by omega) (IntWalk.rem_in _ _ (by omega))) ?_
          refine RL.y rfl (y_asg (v := .int _ _) rfl) ?_
          refine RL.nil ?_
          refine Fin.next ?_
          refine CW.ret ?_
          refine Fin.ret1 rfl (by conv => lhs; whnf) ?_
          exact ⟨_, rfl, _, rfl, mod_range hn1, hS4, hM4⟩
      · with_reducible first | (replace h3 := deNF h3) | (replace h3 := of_decide_eq_true h3) | (replace h3 := of_decide_eq_false h3) | (replace h3 := deNT h3) | (replace h3 := deNN h3) | (replace h3 := bnT h3) | (replace h3 := bnF h3) | skip
        refine RL.pass (t := 55) rfl rfl rfl rfl ?_
        refine RL.pass (t := 55) rfl rfl rfl rfl ?_
        refine RL.pass (t := 55) rfl rfl rfl rfl ?_
        refine RL.pass (t := 55) rfl rfl rfl rfl ?_
        refine RL.pass (t := 55) rfl rfl rfl rfl ?_
        refine RL.pass (t := 55) rfl rfl rfl rfl ?_
        refine RL.y rfl (y_pickF (v := .bool _) rfl rfl) ?_
        refine RL.nil ?_
        refine Fin.next ?_
        refine CW.condF rfl rfl ?_
        refine CW.skip ?_
        refine Fin.next ?_
        refine CW.seq ?_
        refine CW.region ?_
        refine RL.y rfl (y_mov (v := .int _ _) rfl) ?_
        refine RL.y rfl (y_mov (v := .int _ _) rfl) ?_
        refine RL.y rfl (y_rem rfl rfl (by omega) (IntWalk.rem_in _ _ (by omega))) ?_
        refine RL.y rfl (y_asg (v := .int _ _) rfl) ?_
        refine RL.nil ?_
        refine Fin.next ?_
        refine CW.ret ?_
        refine Fin.ret1 rfl (by conv => lhs; whnf) ?_
        exact ⟨_, rfl, _, rfl, mod_range hn1, hS4, hM4⟩
    · with_reducible first | (replace h2 := deNF h2) | (replace h2 := of_decide_eq_true h2) | (replace h2 := of_decide_eq_false h2) | (replace h2 := deNT h2) | (replace h2 := deNN h2) | (replace h2 := bnT h2) | (replace h2 := bnF h2) | skip
      refine CW.skip ?_
      refine Fin.next ?_
      refine CW.seq ?_
      refine CW.region ?_
      refine RL.y rfl (y_mov (v := .int _ _) rfl) ?_
      refine RL.y rfl (y_mov (v := .int _ _) rfl) ?_
      refine RL.y rfl (y_rem rfl rfl (by omega) (IntWalk.rem_in _ _ (by omega))) ?_
      refine RL.y rfl (y_asg (v := .int _ _) rfl) ?_
      refine RL.nil ?_
      refine Fin.next ?_
      refine CW.ret ?_
      refine Fin.ret1 rfl (by conv => lhs; whnf) ?_
      exact ⟨_, rfl, _, rfl, mod_range hn1, ⟨vc, l, k, s1, hV1.ext hE2, hc1.ext hE2, hlow, hk, hs1.1, hs1.2⟩, hM1.trans (hE2.mod _ _)⟩

theorem l01Pick_any {w : World} {b : Nat} {v : Value} {xs : List Int} (hs : Src w b) (hv : SI w v xs) (hl : 1 ≤ xs.length) (hb : ∀ x, v.ownBlock = some x → x ≠ b) :
    Does Tryd.prog 51 #[.pointer (some ⟨b, 0, none⟩), v] w (fun r w' => ∃ x, r = .int .i64 x ∧ x ∈ xs ∧ Drawn w b w') := by
  have hxl := SI.le hv
  refine enter Tryd.func51 rfl 12 Tryd.ntmps51 rfl (by kernel_rfl) ?_
  refine CW.seq ?_
  refine CW.region ?_
  refine RL.y rfl (y_asg rfl) ?_
  refine RL.nil ?_
  refine Fin.next ?_
  refine CW.seq ?_
  refine CW.region ?_
  refine RL.y rfl (y_mov (by conv => lhs; whnf)) ?_
  refine RL.y rfl (y_mov (by conv => lhs; whnf)) ?_
  refine RL.y rfl (y_mov (by conv => lhs; whnf)) ?_
  refine RL.y rfl (y_len sT22 hv (ints_len _) rfl) ?_
  refine RL.call rfl (l01Next_any hs (by omega)) ?_
  rintro r w1 ⟨x, rfl, ⟨hx0, hx1, -⟩, hD⟩
  have hx1 := hx1 (by omega)
  have hv1 : SI w1 v xs := hv.mod hD.2 (fun y hy _ => by have := hb y hy; omega)
  have hxt : x.toNat < xs.length := by omega
  refine RL.y rfl (y_ixi sT22 (eqw (hv1)) hx0 (by rw [ints_len]; omega) rfl rfl) ?_
  refine RL.y rfl (y_load sc2 (eqw (hv1)) (ints_at hxt) rfl) ?_
  refine RL.y rfl (y_asg (v := .int _ _) rfl) ?_
  refine RL.nil ?_
  refine Fin.next ?_
  refine CW.ret ?_
  refine Fin.ret1 rfl (by conv => lhs; whnf) ?_
  exact ⟨_, rfl, _, rfl, List.getElem_mem hxt, hD⟩
end Go.Proofs.YtebegkegkdmbjaaDoor
