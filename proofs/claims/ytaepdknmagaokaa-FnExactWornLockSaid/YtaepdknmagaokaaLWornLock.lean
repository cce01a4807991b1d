/-
  The program's WornLock returns what the reference's WornLock returns, for all arguments; the arguments read behind the call as before it. No condition.
-/
import Derived.Test.YtaepdknmagaokaaFWea5
import Derived.Test.YtaepdknmagaokaaFMarkL
import Derived.Test.YtaepdknmagaokaaLift5
import Derived.Test.YtaepdknmagaokaaRows
namespace Go.Proofs.Ytaepdknmagaokaa
open B Go.RowKit

theorem lawWornLock (w : World) (mk0 : Mk) (v1 : Value) (ss1 : List (List Int)) (hs1 : RdL w v1 ss1) (_ : ∀ r ∈ ss1, ∀ x ∈ r, I64 x) (a2 : Int) (_ : I64 a2) (a3 : Int) (_ : I64 a3) :
    Does Try.prog 5 #[mkA mk0, v1, .int .i64 a2, .int .i64 a3] w (fun r w' => r = .bool true ∧ Ext w w') := by
  skip
  obtain ⟨vl1, rfl, _⟩ := id hs1
  have hT1 := sizeN_tot ss1
  have hR := wnV_tot mk0 ss1 a2 a3
  refine enter Try.func5 rfl 114 Try.ntmps5 rfl (by kernel_rfl) ?_
  refine CW.seq ?_
  refine CW.region ?_
  refine RL.box (cs := [.int .i64 mk0.ch, .int .i64 mk0.dp, .int .i64 mk0.st, .int .i64 mk0.sm, .int .i64 mk0.le]) rfl rfl rfl (fun w1 hV1 hX1 => ?_)
  have hsz1 := hX1.size
  have hE1 := hX1
  have hlt1 := hV1.lt
  refine RL.box (cs := [vl1]) rfl rfl rfl (fun w2 hV2 hX2 => ?_)
  have hsz2 := hX2.size
  replace hV1 := hV1.ext hX2
  have hE2 := hE1.trans hX2
  have hlt2 := hV2.lt
  refine RL.y rfl (y_asg rfl) ?_
  refine RL.nil ?_
  refine Fin.next ?_
  refine CW.seq ?_
  refine CW.region ?_
  refine RL.y rfl (y_asg rfl) ?_
  refine RL.nil ?_
  refine Fin.next ?_
  refine CW.seq ?_
  refine CW.region ?_
  refine RL.y rfl (y_loads ag41 rfl (eqw (hV2)) rfl) ?_
  refine RL.y rfl (y_mov (v := .int _ _) rfl) ?_
  refine RL.call rfl (szLock_any (hs1.ext hE2) (by omega) (by omega)) ?_
  rintro r w3 ⟨rfl, hX3⟩
  have hsz3 := hX3.size
  replace hV1 := hV1.ext hX3
  replace hV2 := hV2.ext hX3
  have hE3 := hE2.trans hX3
  refine RL.y rfl (y_asg (v := .int _ _) rfl) ?_
  refine RL.nil ?_
  refine Fin.next ?_
  refine CW.seq ?_
  refine CW.seq ?_
  refine CW.region ?_
  refine RL.y rfl (y_mov (v := .int _ _) rfl) ?_
  refine RL.y rfl (y_lt rfl rfl) ?_
  refine RL.nil ?_
  refine Fin.next ?_
  refine CW.cond rfl rfl (fun hbig1 => ?_) (fun hbig1 => ?_)
  · with_reducible first | (replace hbig1 := deNF hbig1) | (replace hbig1 := of_decide_eq_true hbig1) | (replace hbig1 := of_decide_eq_false hbig1) | (replace hbig1 := deNT hbig1) | (replace hbig1 := deNN hbig1) | (replace hbig1 := bnT hbig1) | (replace hbig1 := bnF hbig1) | skip
    refine CW.seq ?_
    refine CW.region ?_
    refine RL.y rfl (y_asg rfl) ?_
    refine RL.nil ?_
    refine Fin.next ?_
    refine CW.ret ?_
    refine Fin.thenRet ?_
    refine Fin.ret1 rfl (by conv => lhs; whnf) ?_
    exact ⟨_, rfl, rfl, hE3⟩
  · with_reducible first | (replace hbig1 := deNF hbig1) | (replace hbig1 := of_decide_eq_true hbig1) | (replace hbig1 := of_decide_eq_false hbig1) | (replace hbig1 := deNT hbig1) | (replace hbig1 := deNN hbig1) | (replace hbig1 := bnT hbig1) | (replace hbig1 := bnF hbig1) | skip
    obtain ⟨hsz1, hszv1⟩ := szV_ok hbig1
    refine CW.skip ?_
    refine Fin.next ?_
    refine CW.cut (fun E w' => ∃ (bp Mp Up : Nat) (vop : Value), agrees E [(2, .int .i64 a2), (3, .int .i64 a3), (4, .pointer (some ⟨w.heap.size, 0, none⟩)), (5, .pointer (some ⟨w1.heap.size, 0, none⟩)), (10, .pointer (some ⟨bp, 0, none⟩)), (11, .int .i64 (loC mk0 ss1 a2 a3))] ∧ VR w' bp [vop] ∧ OwL w' Mp Up (.agg #[vop]) (wnV mk0 ss1 a2 a3) ∧ (bp < Mp ∨ Up ≤ bp) ∧ (w3.heap.size ≤ Mp ∧ w3.heap.size ≤ bp ∧ Mp ≤ Up ∧ Up ≤ w'.heap.size ∧ bp < w'.heap.size) ∧ Ext w3 w') ?_ ?_
    · have hY0 : Ext w3 w3.drew := Ext.drew _
      have hy0 := hY0.size
      refine CW.any (Ext w3) [1, 3, 6, 10, 11, 12] mixed rfl (hY0) ?_
      refine AL.y 0 rfl rfl (by kernel_rfl) (by kernel_rfl) (by kernel_rfl) rfl (y_loads ag40 rfl (fun _ hC => (hV1).ext hC) rfl) ?_
      refine AL.y 2 rfl rfl (by kernel_rfl) (by kernel_rfl) (by kernel_rfl) rfl (y_loads ag41 rfl (fun _ hC => (hV2).ext hC) rfl) ?_
      refine AL.y 4 rfl rfl (by kernel_rfl) (by kernel_rfl) (by kernel_rfl) rfl (y_mov (v := .int _ _) rfl) ?_
      refine AL.y 5 rfl rfl (by kernel_rfl) (by kernel_rfl) (by kernel_rfl) rfl (y_mov (v := .int _ _) rfl) ?_
      refine AL.two (i := 1) (j := 10) (by kernel_rfl) rfl rfl rfl rfl ?_ ?_ 
      · intro hr hJ
        refine RL.call rfl (toMaker_any) ?_
        rintro vm wx1 ⟨rfl, hX1⟩
        have hY1 := hY0.trans hX1
        have hy1 := hX1.size
        refine RL.nil ?_
        refine Fin.al hr hJ (.inr hY1) ?_
        refine AL.two (i := 3) (j := 10) (by kernel_rfl) rfl rfl rfl rfl ?_ ?_ 
        · intro hr hJ
          refine RL.call rfl (toLock_any (hs1.ext (hE3.trans hY1)) (by omega)) ?_
          rintro vk wx2 ⟨hB2, hX2⟩
          have hY2 := hY1.trans hX2
          have hy2 := hX2.size
          refine RL.nil ?_
          refine Fin.al hr hJ (.inr hY2) ?_
          refine AL.two (i := 6) (j := 10) (by kernel_rfl) rfl rfl rfl rfl ?_ ?_ 
          · intro hr hJ
            refine RL.call rfl (specWornLock_any hB2.rd) ?_
            rintro r wx3 ⟨v1, rfl, hO3, hX3⟩
            obtain ⟨vo, rfl, _⟩ := id hO3
            have hY3 := hY2.trans hX3
            have hy3 := hX3.size
            replace hB2 := hB2.ext hX3
            refine RL.nil ?_
            refine Fin.al hr hJ (.inr hY3) ?_
            refine AL.y 7 rfl rfl (by kernel_rfl) (by kernel_rfl) (by kernel_rfl) rfl (y_mov (by conv => lhs; whnf)) ?_
            refine AL.y 8 rfl rfl (by kernel_rfl) (by kernel_rfl) (by kernel_rfl) rfl (y_ext0 rfl) ?_
            refine AL.y 9 rfl rfl (by kernel_rfl) (by kernel_rfl) (by kernel_rfl) rfl (y_ext1 rfl) ?_
            refine AL.one (i := 10) (by kernel_rfl) rfl rfl ?_ 
            intro hr hJ
            refine RL.alloc rfl ze28 (fun wx4 hA4 hX4 => ?_)
            have hlA := hA4.lt
            have hY4 := hY3.trans hX4
            have hy4 := hX4.size
            replace hB2 := hB2.ext hX4
            replace hO3 := hO3.ext hX4
            refine RL.nil ?_
            refine Fin.al hr hJ (.inr hY4) ?_
            refine AL.one (i := 11) (by kernel_rfl) rfl rfl ?_ 
            intro hr hJ
            refine RL.stores ag28 (hA4) rfl rfl rfl rfl (hO3.one) (fun wx5 hV5 hg5 => ?_)
            replace hV5 : VR wx5 wx3.heap.size [vo] := hV5
            have hy5 := hg5.size
            have hMM : Mod wx3.heap.size (wx3.heap.size + 1) wx4 wx5 := grown_mod hg5 (fun k hk => by simp only [Option.some.injEq] at hk; omega)
            have hfo := hO3.mod hMM (by omega)
            have hY5 := hY4.then_mod hMM (by omega)
            refine RL.nil ?_
            refine Fin.al hr hJ (.inr hY5) ?_
            refine AL.one (i := 12) (by kernel_rfl) rfl rfl ?_ 
            intro hr hJ
            refine RL.y rfl (y_asg (v := .int _ _) rfl) ?_
            refine RL.nil ?_
            refine Fin.al hr hJ (.inr hY5) ?_
            refine AL.nil (by kernel_rfl) ?_
            refine Fin.le ?_
            exact ⟨_, _, _, _, ⟨rfl, rfl, rfl, rfl, rfl, rfl, trivial⟩, hV5, hfo, (by omega), (by omega), hY5⟩
          · intro hr hJ
            refine RL.alloc rfl ze28 (fun wx3 hA3 hX3 => ?_)
            have hlA := hA3.lt
            have hY3 := hY2.trans hX3
            have hy3 := hX3.size
            replace hB2 := hB2.ext hX3
            refine RL.nil ?_
            refine Fin.al hr hJ (.inr hY3) ?_
            refine AL.one (i := 6) (by kernel_rfl) rfl rfl ?_ 
            intro hr hJ
            refine RL.call rfl (specWornLock_any hB2.rd) ?_
            rintro r wx4 ⟨v1, rfl, hO4, hX4⟩
            obtain ⟨vo, rfl, _⟩ := id hO4
            have hY4 := hY3.trans hX4
            have hy4 := hX4.size
            replace hA3 := hA3.ext hX4
            replace hB2 := hB2.ext hX4
            refine RL.nil ?_
            refine Fin.al hr hJ (.inr hY4) ?_
            refine AL.y 7 rfl rfl (by kernel_rfl) (by kernel_rfl) (by kernel_rfl) rfl (y_mov (by conv => lhs; whnf)) ?_
            refine AL.y 8 rfl rfl (by kernel_rfl) (by kernel_rfl) (by kernel_rfl) rfl (y_ext0 rfl) ?_
            refine AL.y 9 rfl rfl (by kernel_rfl) (by kernel_rfl) (by kernel_rfl) rfl (y_ext1 rfl) ?_
            refine AL.one (i := 11) (by kernel_rfl) rfl rfl ?_ 
            intro hr hJ
            refine RL.stores ag28 (hA3) rfl rfl rfl rfl (hO4.one) (fun wx5 hV5 hg5 => ?_)
            replace hV5 : VR wx5 wx2.heap.size [vo] := hV5
            have hy5 := hg5.size
            have hMM : Mod wx2.heap.size (wx2.heap.size + 1) wx4 wx5 := grown_mod hg5 (fun k hk => by simp only [Option.some.injEq] at hk; omega)
            have hfo := hO4.mod hMM (by omega)
            have hY5 := hY4.then_mod hMM (by omega)
            refine RL.nil ?_
            refine Fin.al hr hJ (.inr hY5) ?_
            refine AL.one (i := 12) (by kernel_rfl) rfl rfl ?_ 
            intro hr hJ
            refine RL.y rfl (y_asg (v := .int _ _) rfl) ?_
            refine RL.nil ?_
            refine Fin.al hr hJ (.inr hY5) ?_
            refine AL.nil (by kernel_rfl) ?_
            refine Fin.le ?_
            exact ⟨_, _, _, _, ⟨rfl, rfl, rfl, rfl, rfl, rfl, trivial⟩, hV5, hfo, (by omega), (by omega), hY5⟩
        · intro hr hJ
          refine RL.alloc rfl ze28 (fun wx2 hA2 hX2 => ?_)
          have hlA := hA2.lt
          have hY2 := hY1.trans hX2
          have hy2 := hX2.size
          refine RL.nil ?_
          refine Fin.al hr hJ (.inr hY2) ?_
          refine AL.one (i := 3) (by kernel_rfl) rfl rfl ?_ 
          intro hr hJ
          refine RL.call rfl (toLock_any (hs1.ext (hE3.trans hY2)) (by omega)) ?_
          rintro vk wx3 ⟨hB3, hX3⟩
          have hY3 := hY2.trans hX3
          have hy3 := hX3.size
          replace hA2 := hA2.ext hX3
          refine RL.nil ?_
          refine Fin.al hr hJ (.inr hY3) ?_
          refine AL.one (i := 6) (by kernel_rfl) rfl rfl ?_ 
          intro hr hJ
          refine RL.call rfl (specWornLock_any hB3.rd) ?_
          rintro r wx4 ⟨v1, rfl, hO4, hX4⟩
          obtain ⟨vo, rfl, _⟩ := id hO4
          have hY4 := hY3.trans hX4
          have hy4 := hX4.size
          replace hA2 := hA2.ext hX4
          replace hB3 := hB3.ext hX4
          refine RL.nil ?_
          refine Fin.al hr hJ (.inr hY4) ?_
          refine AL.y 7 rfl rfl (by kernel_rfl) (by kernel_rfl) (by kernel_rfl) rfl (y_mov (by conv => lhs; whnf)) ?_
          refine AL.y 8 rfl rfl (by kernel_rfl) (by kernel_rfl) (by kernel_rfl) rfl (y_ext0 rfl) ?_
          refine AL.y 9 rfl rfl (by kernel_rfl) (by kernel_rfl) (by kernel_rfl) rfl (y_ext1 rfl) ?_
          refine AL.one (i := 11) (by kernel_rfl) rfl rfl ?_ 
          intro hr hJ
          refine RL.stores ag28 (hA2) rfl rfl rfl rfl (hO4.one) (fun wx5 hV5 hg5 => ?_)
          replace hV5 : VR wx5 wx1.heap.size [vo] := hV5
          have hy5 := hg5.size
          have hMM : Mod wx1.heap.size (wx1.heap.size + 1) wx4 wx5 := grown_mod hg5 (fun k hk => by simp only [Option.some.injEq] at hk; omega)
          have hfo := hO4.mod hMM (by omega)
          have hY5 := hY4.then_mod hMM (by omega)
          refine RL.nil ?_
          refine Fin.al hr hJ (.inr hY5) ?_
          refine AL.one (i := 12) (by kernel_rfl) rfl rfl ?_ 
          intro hr hJ
          refine RL.y rfl (y_asg (v := .int _ _) rfl) ?_
          refine RL.nil ?_
          refine Fin.al hr hJ (.inr hY5) ?_
          refine AL.nil (by kernel_rfl) ?_
          refine Fin.le ?_
          exact ⟨_, _, _, _, ⟨rfl, rfl, rfl, rfl, rfl, rfl, trivial⟩, hV5, hfo, (by omega), (by omega), hY5⟩
      · intro hr hJ
        refine RL.alloc rfl ze28 (fun wx1 hA1 hX1 => ?_)
        have hlA := hA1.lt
        have hY1 := hY0.trans hX1
        have hy1 := hX1.size
        refine RL.nil ?_
        refine Fin.al hr hJ (.inr hY1) ?_
        refine AL.one (i := 1) (by kernel_rfl) rfl rfl ?_ 
        intro hr hJ
        refine RL.call rfl (toMaker_any) ?_
        rintro vm wx2 ⟨rfl, hX2⟩
        have hY2 := hY1.trans hX2
        have hy2 := hX2.size
        replace hA1 := hA1.ext hX2
        refine RL.nil ?_
        refine Fin.al hr hJ (.inr hY2) ?_
        refine AL.one (i := 3) (by kernel_rfl) rfl rfl ?_ 
        intro hr hJ
        refine RL.call rfl (toLock_any (hs1.ext (hE3.trans hY2)) (by omega)) ?_
        rintro vk wx3 ⟨hB3, hX3⟩
        have hY3 := hY2.trans hX3
        have hy3 := hX3.size
        replace hA1 := hA1.ext hX3
        refine RL.nil ?_
        refine Fin.al hr hJ (.inr hY3) ?_
        refine AL.one (i := 6) (by kernel_rfl) rfl rfl ?_ 
        intro hr hJ
        refine RL.call rfl (specWornLock_any hB3.rd) ?_
        rintro r wx4 ⟨v1, rfl, hO4, hX4⟩
        obtain ⟨vo, rfl, _⟩ := id hO4
        have hY4 := hY3.trans hX4
        have hy4 := hX4.size
        replace hA1 := hA1.ext hX4
        replace hB3 := hB3.ext hX4
        refine RL.nil ?_
        refine Fin.al hr hJ (.inr hY4) ?_
        refine AL.y 7 rfl rfl (by kernel_rfl) (by kernel_rfl) (by kernel_rfl) rfl (y_mov (by conv => lhs; whnf)) ?_
        refine AL.y 8 rfl rfl (by kernel_rfl) (by kernel_rfl) (by kernel_rfl) rfl (y_ext0 rfl) ?_
        refine AL.y 9 rfl rfl (by kernel_rfl) (by kernel_rfl) (by kernel_rfl) rfl (y_ext1 rfl) ?_
        refine AL.one (i := 11) (by kernel_rfl) rfl rfl ?_ 
        intro hr hJ
        refine RL.stores ag28 (hA1) rfl rfl rfl rfl (hO4.one) (fun wx5 hV5 hg5 => ?_)
        replace hV5 : VR wx5 w3.drew.heap.size [vo] := hV5
        have hy5 := hg5.size
        have hMM : Mod w3.drew.heap.size (w3.drew.heap.size + 1) wx4 wx5 := grown_mod hg5 (fun k hk => by simp only [Option.some.injEq] at hk; omega)
        have hfo := hO4.mod hMM (by omega)
        have hY5 := hY4.then_mod hMM (by omega)
        refine RL.nil ?_
        refine Fin.al hr hJ (.inr hY5) ?_
        refine AL.one (i := 12) (by kernel_rfl) rfl rfl ?_ 
        intro hr hJ
        refine RL.y rfl (y_asg (v := .int _ _) rfl) ?_
        refine RL.nil ?_
        refine Fin.al hr hJ (.inr hY5) ?_
        refine AL.nil (by kernel_rfl) ?_
        refine Fin.le ?_
        exact ⟨_, _, _, _, ⟨rfl, rfl, rfl, rfl, rfl, rfl, trivial⟩, hV5, hfo, (by omega), (by omega), hY5⟩
    · rintro E wp ⟨bp, Mp, Up, vop, hag, hVp, hop, hdp, ⟨hdp1, hdp2, hdp3, hdp4, hdp5⟩, hXp⟩
      refine CW.re _ hag rfl ?_
      replace hV1 := hV1.ext hXp
      replace hV2 := hV2.ext hXp
      have hEp := hE3.trans hXp
      have hszp := hXp.size
      refine CW.seq ?_
      refine CW.region ?_
      refine RL.y rfl (y_loads ag41 rfl (eqw (hV2)) rfl) ?_
      refine RL.call rfl (toLock_any (hs1.ext hEp) (by omega)) ?_
      rintro v w4 ⟨ho4x0, hX4⟩
      have hsz4 := hX4.size
      replace hop := hop.ext hX4
      replace hV1 := hV1.ext hX4
      replace hV2 := hV2.ext hX4
      replace hVp := hVp.ext hX4
      have hE4 := hEp.trans hX4
      replace ho4x0 := OwL.of ho4x0
      obtain ⟨vs4x, rfl, _⟩ := id ho4x0
      refine RL.alloc rfl ze28 (fun w5 hV5 hX5 => ?_)
      have hsz5 := hX5.size
      replace hop := hop.ext hX5
      replace ho4x0 := ho4x0.ext hX5
      replace hV1 := hV1.ext hX5
      replace hV2 := hV2.ext hX5
      replace hVp := hVp.ext hX5
      have hE5 := hE4.trans hX5
      have hlt5 := hV5.lt
      refine RL.stores ag28 (hV5) rfl rfl rfl rfl (ho4x0.one) (fun w6 hV6 hg6 => ?_)
      have hM6 := grown_mod (B := w4.heap.size) (U := w4.heap.size + 1) hg6 (fun k e => by simp only [Option.some.injEq] at e; omega)
      have hsz6 := hM6.size
      replace hop := hop.mod hM6 (by omega)
      replace ho4x0 := ho4x0.mod hM6 (by omega)
      replace hV1 := hV1.mod hM6 (by omega)
      replace hV2 := hV2.mod hM6 (by omega)
      replace hVp := hVp.mod hM6 (by omega)
      have hE6 := Ext.then_mod hE5 hM6 (by omega)
      refine RL.nil ?_
      refine Fin.next ?_
      refine CW.cut (fun E w' => ∃ (bq Mq Uq : Nat) (voq : Value), agrees E [(2, .int .i64 a2), (3, .int .i64 a3), (4, .pointer (some ⟨w.heap.size, 0, none⟩)), (5, .pointer (some ⟨w1.heap.size, 0, none⟩)), (10, .pointer (some ⟨bp, 0, none⟩)), (11, .int .i64 (loC mk0 ss1 a2 a3)), (12, .pointer (some ⟨w4.heap.size, 0, none⟩)), (13, .pointer (some ⟨bq, 0, none⟩)), (14, .int .i64 (loC mk0 ss1 a2 a3))] ∧ VR w' bq [voq] ∧ OwL w' Mq Uq (.agg #[voq]) (wnV mk0 ss1 a2 a3) ∧ (bq < Mq ∨ Uq ≤ bq) ∧ (w6.heap.size ≤ Mq ∧ w6.heap.size ≤ bq ∧ Mq ≤ Uq ∧ Uq ≤ w'.heap.size ∧ bq < w'.heap.size) ∧ Ext w6 w') ?_ ?_
      · have hY0 : Ext w6 w6.drew := Ext.drew _
        have hy0 := hY0.size
        refine CW.any (Ext w6) [1, 5, 9, 10, 11] mixed rfl (hY0) ?_
        refine AL.y 0 rfl rfl (by kernel_rfl) (by kernel_rfl) (by kernel_rfl) rfl (y_loads ag40 rfl (fun _ hC => (hV1).ext hC) rfl) ?_
        refine AL.y 2 rfl rfl (by kernel_rfl) (by kernel_rfl) (by kernel_rfl) rfl (y_loads ag28 rfl (fun _ hC => (hV6).ext hC) rfl) ?_
        refine AL.y 3 rfl rfl (by kernel_rfl) (by kernel_rfl) (by kernel_rfl) rfl (y_mov (v := .int _ _) rfl) ?_
        refine AL.y 4 rfl rfl (by kernel_rfl) (by kernel_rfl) (by kernel_rfl) rfl (y_mov (v := .int _ _) rfl) ?_
        refine AL.two (i := 1) (j := 9) (by kernel_rfl) rfl rfl rfl rfl ?_ ?_ 
        · intro hr hJ
          refine RL.call rfl (toMaker_any) ?_
          rintro vm wx1 ⟨rfl, hX1⟩
          have hY1 := hY0.trans hX1
          have hy1 := hX1.size
          refine RL.nil ?_
          refine Fin.al hr hJ (.inr hY1) ?_
          refine AL.two (i := 5) (j := 9) (by kernel_rfl) rfl rfl rfl rfl ?_ ?_ 
          · intro hr hJ
            refine RL.call rfl (implWornLock_any (ho4x0.ext hY1).rd) ?_
            rintro r wx2 ⟨v1, rfl, hO2, hX2⟩
            obtain ⟨vo, rfl, _⟩ := id hO2
            have hY2 := hY1.trans hX2
            have hy2 := hX2.size
            refine RL.nil ?_
            refine Fin.al hr hJ (.inr hY2) ?_
            refine AL.y 6 rfl rfl (by kernel_rfl) (by kernel_rfl) (by kernel_rfl) rfl (y_mov (by conv => lhs; whnf)) ?_
            refine AL.y 7 rfl rfl (by kernel_rfl) (by kernel_rfl) (by kernel_rfl) rfl (y_ext0 rfl) ?_
            refine AL.y 8 rfl rfl (by kernel_rfl) (by kernel_rfl) (by kernel_rfl) rfl (y_ext1 rfl) ?_
            refine AL.one (i := 9) (by kernel_rfl) rfl rfl ?_ 
            intro hr hJ
            refine RL.alloc rfl ze28 (fun wx3 hA3 hX3 => ?_)
            have hlA := hA3.lt
            have hY3 := hY2.trans hX3
            have hy3 := hX3.size
            replace hO2 := hO2.ext hX3
            refine RL.nil ?_
            refine Fin.al hr hJ (.inr hY3) ?_
            refine AL.one (i := 10) (by kernel_rfl) rfl rfl ?_ 
            intro hr hJ
            refine RL.stores ag28 (hA3) rfl rfl rfl rfl (hO2.one) (fun wx4 hV4 hg4 => ?_)
            replace hV4 : VR wx4 wx2.heap.size [vo] := hV4
            have hy4 := hg4.size
            have hMM : Mod wx2.heap.size (wx2.heap.size + 1) wx3 wx4 := grown_mod hg4 (fun k hk => by simp only [Option.some.injEq] at hk; omega)
            have hfo := hO2.mod hMM (by omega)
            have hY4 := hY3.then_mod hMM (by omega)
            refine RL.nil ?_
            refine Fin.al hr hJ (.inr hY4) ?_
            refine AL.one (i := 11) (by kernel_rfl) rfl rfl ?_ 
            intro hr hJ
            refine RL.y rfl (y_asg (v := .int _ _) rfl) ?_
            refine RL.nil ?_
            refine Fin.al hr hJ (.inr hY4) ?_
            refine AL.nil (by kernel_rfl) ?_
            refine Fin.le ?_
            exact ⟨_, _, _, _, ⟨rfl, rfl, rfl, rfl, rfl, rfl, rfl, rfl, rfl, trivial⟩, hV4, hfo, (by omega), (by omega), hY4⟩
          · intro hr hJ
            refine RL.alloc rfl ze28 (fun wx2 hA2 hX2 => ?_)
            have hlA := hA2.lt
            have hY2 := hY1.trans hX2
            have hy2 := hX2.size
            refine RL.nil ?_
            refine Fin.al hr hJ (.inr hY2) ?_
            refine AL.one (i := 5) (by kernel_rfl) rfl rfl ?_ 
            intro hr hJ
            refine RL.call rfl (implWornLock_any (ho4x0.ext hY2).rd) ?_
            rintro r wx3 ⟨v1, rfl, hO3, hX3⟩
            obtain ⟨vo, rfl, _⟩ := id hO3
            have hY3 := hY2.trans hX3
            have hy3 := hX3.size
            replace hA2 := hA2.ext hX3
            refine RL.nil ?_
            refine Fin.al hr hJ (.inr hY3) ?_
            refine AL.y 6 rfl rfl (by kernel_rfl) (by kernel_rfl) (by kernel_rfl) rfl (y_mov (by conv => lhs; whnf)) ?_
            refine AL.y 7 rfl rfl (by kernel_rfl) (by kernel_rfl) (by kernel_rfl) rfl (y_ext0 rfl) ?_
            refine AL.y 8 rfl rfl (by kernel_rfl) (by kernel_rfl) (by kernel_rfl) rfl (y_ext1 rfl) ?_
            refine AL.one (i := 10) (by kernel_rfl) rfl rfl ?_ 
            intro hr hJ
            refine RL.stores ag28 (hA2) rfl rfl rfl rfl (hO3.one) (fun wx4 hV4 hg4 => ?_)
            replace hV4 : VR wx4 wx1.heap.size [vo] := hV4
            have hy4 := hg4.size
            have hMM : Mod wx1.heap.size (wx1.heap.size + 1) wx3 wx4 := grown_mod hg4 (fun k hk => by simp only [Option.some.injEq] at hk; omega)
            have hfo := hO3.mod hMM (by omega)
            have hY4 := hY3.then_mod hMM (by omega)
            refine RL.nil ?_
            refine Fin.al hr hJ (.inr hY4) ?_
            refine AL.one (i := 11) (by kernel_rfl) rfl rfl ?_ 
            intro hr hJ
            refine RL.y rfl (y_asg (v := .int _ _) rfl) ?_
            refine RL.nil ?_
            refine Fin.al hr hJ (.inr hY4) ?_
            refine AL.nil (by kernel_rfl) ?_
            refine Fin.le ?_
            exact ⟨_, _, _, _, ⟨rfl, rfl, rfl, rfl, rfl, rfl, rfl, rfl, rfl, trivial⟩, hV4, hfo, (by omega), (by omega), hY4⟩
        · intro hr hJ
          refine RL.alloc rfl ze28 (fun wx1 hA1 hX1 => ?_)
          have hlA := hA1.lt
          have hY1 := hY0.trans hX1
          have hy1 := hX1.size
          refine RL.nil ?_
          refine Fin.al hr hJ (.inr hY1) ?_
          refine AL.one (i := 1) (by kernel_rfl) rfl rfl ?_ 
          intro hr hJ
          refine RL.call rfl (toMaker_any) ?_
          rintro vm wx2 ⟨rfl, hX2⟩
          have hY2 := hY1.trans hX2
          have hy2 := hX2.size
          replace hA1 := hA1.ext hX2
          refine RL.nil ?_
          refine Fin.al hr hJ (.inr hY2) ?_
          refine AL.one (i := 5) (by kernel_rfl) rfl rfl ?_ 
          intro hr hJ
          refine RL.call rfl (implWornLock_any (ho4x0.ext hY2).rd) ?_
          rintro r wx3 ⟨v1, rfl, hO3, hX3⟩
          obtain ⟨vo, rfl, _⟩ := id hO3
          have hY3 := hY2.trans hX3
          have hy3 := hX3.size
          replace hA1 := hA1.ext hX3
          refine RL.nil ?_
          refine Fin.al hr hJ (.inr hY3) ?_
          refine AL.y 6 rfl rfl (by kernel_rfl) (by kernel_rfl) (by kernel_rfl) rfl (y_mov (by conv => lhs; whnf)) ?_
          refine AL.y 7 rfl rfl (by kernel_rfl) (by kernel_rfl) (by kernel_rfl) rfl (y_ext0 rfl) ?_
          refine AL.y 8 rfl rfl (by kernel_rfl) (by kernel_rfl) (by kernel_rfl) rfl (y_ext1 rfl) ?_
          refine AL.one (i := 10) (by kernel_rfl) rfl rfl ?_ 
          intro hr hJ
          refine RL.stores ag28 (hA1) rfl rfl rfl rfl (hO3.one) (fun wx4 hV4 hg4 => ?_)
          replace hV4 : VR wx4 w6.drew.heap.size [vo] := hV4
          have hy4 := hg4.size
          have hMM : Mod w6.drew.heap.size (w6.drew.heap.size + 1) wx3 wx4 := grown_mod hg4 (fun k hk => by simp only [Option.some.injEq] at hk; omega)
          have hfo := hO3.mod hMM (by omega)
          have hY4 := hY3.then_mod hMM (by omega)
          refine RL.nil ?_
          refine Fin.al hr hJ (.inr hY4) ?_
          refine AL.one (i := 11) (by kernel_rfl) rfl rfl ?_ 
          intro hr hJ
          refine RL.y rfl (y_asg (v := .int _ _) rfl) ?_
          refine RL.nil ?_
          refine Fin.al hr hJ (.inr hY4) ?_
          refine AL.nil (by kernel_rfl) ?_
          refine Fin.le ?_
          exact ⟨_, _, _, _, ⟨rfl, rfl, rfl, rfl, rfl, rfl, rfl, rfl, rfl, trivial⟩, hV4, hfo, (by omega), (by omega), hY4⟩
      · rintro E wq ⟨bq, Mq, Uq, voq, hag, hVq, hoq, hdq, ⟨hdq1, hdq2, hdq3, hdq4, hdq5⟩, hXq⟩
        refine CW.re _ hag rfl ?_
        replace hop := hop.ext hXq
        replace ho4x0 := ho4x0.ext hXq
        replace hV1 := hV1.ext hXq
        replace hV2 := hV2.ext hXq
        replace hVp := hVp.ext hXq
        replace hV6 := hV6.ext hXq
        have hEq := hE6.trans hXq
        have hszq := hXq.size
        refine CW.seq ?_
        refine CW.seq ?_
        refine CW.region ?_
        refine RL.y rfl (y_loads ag28 rfl (eqw (hVq)) rfl) ?_
        refine RL.y rfl (y_loads ag28 rfl (eqw (hVp)) rfl) ?_
        refine RL.call rfl (eqLock_any hoq.rd hop.rd) ?_
        rintro r w7 ⟨rfl, hX7⟩
        have hsz7 := hX7.size
        replace hop := hop.ext hX7
        replace ho4x0 := ho4x0.ext hX7
        replace hoq := hoq.ext hX7
        replace hV1 := hV1.ext hX7
        replace hV2 := hV2.ext hX7
        replace hVp := hVp.ext hX7
        replace hV6 := hV6.ext hX7
        replace hVq := hVq.ext hX7
        have hE7 := hEq.trans hX7
        refine RL.y rfl (y_not rfl) ?_
        refine RL.y rfl (y_mov (v := .bool _) rfl) ?_
        refine RL.force (t := 50) false rfl rfl (by first | (simp; done) | exact decide_eq_false (by omega) | (simp [*]; done) | assumption) ?_
        refine RL.take (t := 50) rfl rfl rfl ?_
        refine RL.y rfl (y_mov (v := .int _ _) rfl) ?_
        refine RL.take (t := 50) rfl rfl rfl ?_
        refine RL.y rfl (y_mov (v := .int _ _) rfl) ?_
        refine RL.take (t := 50) rfl rfl rfl ?_
        refine RL.y rfl (y_ne rfl rfl) ?_
        refine RL.y rfl (y_pickF (v := .bool _) rfl rfl) ?_
        refine RL.nil ?_
        refine Fin.next ?_
        refine CW.condF rfl (by first | (simp; done) | exact decide_eq_false (by omega) | (simp [*]; done) | assumption) ?_
        refine CW.skip ?_
        refine Fin.next ?_
        refine CW.seq ?_
        refine CW.seq ?_
        refine CW.tape (Ext _) [4, 3, 2] mixed (by kernel_rfl) (by kernel_rfl) (Ext.drew _) ?_
        refine TL.y rfl rfl (y_loads ag28 rfl (fun _ hC => (hV6).ext hC) rfl) ?_
        refine TL.y rfl rfl (y_loads ag41 rfl (fun _ hC => (hV2).ext hC) rfl) ?_
        refine TL.op rfl (fun hC => ?_)
        have hD8 := hC
        have hopz := hop
        have ho4x0z := ho4x0
        have hoqz := hoq
        have hV1z := hV1
        have hV2z := hV2
        have hVpz := hVp
        have hV6z := hV6
        have hVqz := hVq
        replace hop := hop.ext hD8
        replace ho4x0 := ho4x0.ext hD8
        replace hoq := hoq.ext hD8
        replace hV1 := hV1.ext hD8
        replace hV2 := hV2.ext hD8
        replace hVp := hVp.ext hD8
        replace hV6 := hV6.ext hD8
        replace hVq := hVq.ext hD8
        have hE8 := hE7.trans hD8
        have hsz8 := hD8.size
        refine RL.call rfl (toLock_any (hs1.ext hE8) (by omega)) ?_
        rintro v w9 ⟨ho9x0, hX9⟩
        have hsz9 := hX9.size
        replace hop := hop.ext hX9
        replace ho4x0 := ho4x0.ext hX9
        replace hoq := hoq.ext hX9
        replace hV1 := hV1.ext hX9
        replace hV2 := hV2.ext hX9
        replace hVp := hVp.ext hX9
        replace hV6 := hV6.ext hX9
        replace hVq := hVq.ext hX9
        have hE9 := hE8.trans hX9
        replace ho9x0 := OwL.of ho9x0
        obtain ⟨vs9x, rfl, _⟩ := id ho9x0
        refine RL.nil ?_
        refine Fin.tl (by first | exact hC | (refine Ext.trans hC ?_; assumption)) ?_
        refine TL.op rfl (fun hC => ?_)
        refine RL.call rfl (eqLock_any ho4x0.rd ho9x0.rd) ?_
        rintro r w10 ⟨rfl, hX10⟩
        have hsz10 := hX10.size
        replace hop := hop.ext hX10
        replace ho4x0 := ho4x0.ext hX10
        replace hoq := hoq.ext hX10
        replace ho9x0 := ho9x0.ext hX10
        replace hV1 := hV1.ext hX10
        replace hV2 := hV2.ext hX10
        replace hVp := hVp.ext hX10
        replace hV6 := hV6.ext hX10
        replace hVq := hVq.ext hX10
        have hE10 := hE9.trans hX10
        refine RL.nil ?_
        refine Fin.tl (by first | exact hC | (refine Ext.trans hC ?_; assumption)) ?_
        refine TL.yc rfl rfl (y_not rfl) ?_
        refine TL.nil (fun hC => ?_)
        refine Fin.next ?_
        refine CW.condF rfl (by first | (simp; done) | exact decide_eq_false (by omega) | (simp [*]; done) | assumption) ?_
        refine CW.skip ?_
        refine Fin.next ?_
        refine CW.seq ?_
        refine CW.region ?_
        refine RL.y rfl (y_asg rfl) ?_
        refine RL.nil ?_
        refine Fin.next ?_
        refine CW.seq ?_
        refine CW.region ?_
        refine RL.y rfl (y_loads ag28 rfl (eqw (hV6)) rfl) ?_
        refine RL.y rfl (y_mov (v := .int _ _) rfl) ?_
        refine RL.call rfl (markL_own ho4x0 (by omega) (by omega)) ?_
        rintro r w11 ⟨xs11, k11, rfl, ho11, hh11, hk11, hl11, hM11⟩
        have hsz11 := hM11.size
        replace hop := hop.mod hM11 (by omega)
        replace hoq := hoq.mod hM11 (by omega)
        replace ho9x0 := ho9x0.mod hM11 (by omega)
        replace hV1 := hV1.mod hM11 (by omega)
        replace hV2 := hV2.mod hM11 (by omega)
        replace hVp := hVp.mod hM11 (by omega)
        replace hV6 := hV6.mod hM11 (by omega)
        replace hVq := hVq.mod hM11 (by omega)
        have hE11 := Ext.then_mod hE10 hM11 (by omega)
        clear ho4x0
        refine RL.y rfl (y_asg (v := .int _ _) rfl) ?_
        refine RL.nil ?_
        refine Fin.next ?_
        refine CW.seq ?_
        refine CW.seq ?_
        refine CW.region ?_
        refine RL.y rfl (y_mov (v := .int _ _) rfl) ?_
        refine RL.y rfl (y_lt rfl rfl) ?_
        refine RL.y rfl (y_mov (v := .bool _) rfl) ?_
        refine RL.force (t := 65) false rfl rfl (by first | (simp; done) | exact decide_eq_false (by omega) | (simp [*]; done) | assumption) ?_
        refine RL.take (t := 65) rfl rfl rfl ?_
        refine RL.y rfl (y_loads ag28 rfl (eqw (hVq)) rfl) ?_
        refine RL.take (t := 65) rfl rfl rfl ?_
        refine RL.y rfl (y_loads ag28 rfl (eqw (hVp)) rfl) ?_
        refine RL.take (t := 65) rfl rfl rfl ?_
        refine RL.call rfl (eqLock_any hoq.rd hop.rd) ?_
        rintro r w12 ⟨rfl, hX12⟩
        have hsz12 := hX12.size
        replace hop := hop.ext hX12
        replace ho11 := ho11.ext hX12
        replace hoq := hoq.ext hX12
        replace ho9x0 := ho9x0.ext hX12
        replace hV1 := hV1.ext hX12
        replace hV2 := hV2.ext hX12
        replace hVp := hVp.ext hX12
        replace hV6 := hV6.ext hX12
        replace hVq := hVq.ext hX12
        have hE12 := hE11.trans hX12
        refine RL.take (t := 65) rfl rfl rfl ?_
        refine RL.y rfl (y_not rfl) ?_
        refine RL.y rfl (y_pickF (v := .bool _) rfl rfl) ?_
        refine RL.y rfl (y_mov (v := .bool _) rfl) ?_
        refine RL.force (t := 71) false rfl rfl (by first | (simp; done) | exact decide_eq_false (by omega) | (simp [*]; done) | assumption) ?_
        refine RL.take (t := 71) rfl rfl rfl ?_
        refine RL.y rfl (y_mov (v := .int _ _) rfl) ?_
        refine RL.take (t := 71) rfl rfl rfl ?_
        refine RL.y rfl (y_mov (v := .int _ _) rfl) ?_
        refine RL.take (t := 71) rfl rfl rfl ?_
        refine RL.y rfl (y_ne rfl rfl) ?_
        refine RL.y rfl (y_pickF (v := .bool _) rfl rfl) ?_
        refine RL.nil ?_
        refine Fin.next ?_
        refine CW.condF rfl (by first | (simp; done) | exact decide_eq_false (by omega) | (simp [*]; done) | assumption) ?_
        refine CW.skip ?_
        refine Fin.next ?_
        refine CW.seq ?_
        refine CW.region ?_
        refine RL.y rfl (y_asg rfl) ?_
        refine RL.nil ?_
        refine Fin.next ?_
        refine CW.seq ?_
        refine CW.region ?_
        refine RL.y rfl (y_loads ag28 rfl (eqw (hVq)) rfl) ?_
        refine RL.y rfl (y_mov (v := .int _ _) rfl) ?_
        refine RL.call rfl (markL_own hoq (by omega) (by omega)) ?_
        rintro r w13 ⟨xs13, k13, rfl, ho13, hh13, hk13, hl13, hM13⟩
        have hsz13 := hM13.size
        replace hop := hop.mod hM13 (by omega)
        replace ho11 := ho11.mod hM13 (by omega)
        replace ho9x0 := ho9x0.mod hM13 (by omega)
        replace hV1 := hV1.mod hM13 (by omega)
        replace hV2 := hV2.mod hM13 (by omega)
        replace hVp := hVp.mod hM13 (by omega)
        replace hV6 := hV6.mod hM13 (by omega)
        replace hVq := hVq.mod hM13 (by omega)
        have hE13 := Ext.then_mod hE12 hM13 (by omega)
        clear hoq
        refine RL.y rfl (y_asg (v := .int _ _) rfl) ?_
        refine RL.nil ?_
        refine Fin.next ?_
        refine CW.seq ?_
        refine CW.region ?_
        refine RL.y rfl (y_asg rfl) ?_
        refine RL.nil ?_
        refine Fin.next ?_
        refine CW.seq ?_
        refine CW.region ?_
        refine RL.y rfl (y_loads ag28 rfl (eqw (hVq)) rfl) ?_
        refine RL.y rfl (y_mov (v := .int _ _) rfl) ?_
        refine RL.call rfl (heldLock_any ho13.rd (by omega) (by omega)) ?_
        rintro r w14 ⟨rfl, hX14⟩
        have hsz14 := hX14.size
        replace hop := hop.ext hX14
        replace ho11 := ho11.ext hX14
        replace ho13 := ho13.ext hX14
        replace ho9x0 := ho9x0.ext hX14
        replace hV1 := hV1.ext hX14
        replace hV2 := hV2.ext hX14
        replace hVp := hVp.ext hX14
        replace hV6 := hV6.ext hX14
        replace hVq := hVq.ext hX14
        have hE14 := hE13.trans hX14
        refine RL.y rfl (y_asg (v := .int _ _) rfl) ?_
        refine RL.nil ?_
        refine Fin.next ?_
        refine CW.seq ?_
        refine CW.seq ?_
        refine CW.region ?_
        refine RL.y rfl (y_mov (v := .int _ _) rfl) ?_
        refine RL.y rfl (y_lt rfl rfl) ?_
        refine RL.nil ?_
        refine Fin.next ?_
        refine CW.condF rfl (by first | (simp; done) | exact decide_eq_false (by omega) | (simp [*]; done) | assumption) ?_
        refine CW.skip ?_
        refine Fin.next ?_
        refine CW.seq ?_
        refine CW.seq ?_
        refine CW.region ?_
        refine RL.y rfl (y_mov (v := .int _ _) rfl) ?_
        refine RL.y rfl (y_mov (v := .int _ _) rfl) ?_
        refine RL.y rfl (y_ne rfl rfl) ?_
        refine RL.nil ?_
        refine Fin.next ?_
        refine CW.condF rfl (by first | (simp; done) | exact decide_eq_false (by omega) | (simp [*]; done) | assumption) ?_
        refine CW.skip ?_
        refine Fin.next ?_
        refine CW.cut (fun E w' => ∃ (br Mr Ur : Nat) (vor : Value), agrees E [(10, .pointer (some ⟨bp, 0, none⟩)), (11, .int .i64 (loC mk0 ss1 a2 a3)), (13, .pointer (some ⟨bq, 0, none⟩)), (16, .int .i64 k13), (18, .pointer (some ⟨br, 0, none⟩)), (19, .int .i64 (loC mk0 ss1 a2 a3))] ∧ VR w' br [vor] ∧ OwL w' Mr Ur (.agg #[vor]) (wnV mk0 ss1 a2 a3) ∧ (br < Mr ∨ Ur ≤ br) ∧ (w14.heap.size ≤ Mr ∧ w14.heap.size ≤ br ∧ Mr ≤ Ur ∧ Ur ≤ w'.heap.size ∧ br < w'.heap.size) ∧ Ext w14 w') ?_ ?_
        · have hY0 : Ext w14 w14.drew := Ext.drew _
          have hy0 := hY0.size
          refine CW.any (Ext w14) [1, 3, 6, 10, 11, 12] mixed rfl (hY0) ?_
          refine AL.y 0 rfl rfl (by kernel_rfl) (by kernel_rfl) (by kernel_rfl) rfl (y_loads ag40 rfl (fun _ hC => (hV1).ext hC) rfl) ?_
          refine AL.y 2 rfl rfl (by kernel_rfl) (by kernel_rfl) (by kernel_rfl) rfl (y_loads ag41 rfl (fun _ hC => (hV2).ext hC) rfl) ?_
          refine AL.y 4 rfl rfl (by kernel_rfl) (by kernel_rfl) (by kernel_rfl) rfl (y_mov (v := .int _ _) rfl) ?_
          refine AL.y 5 rfl rfl (by kernel_rfl) (by kernel_rfl) (by kernel_rfl) rfl (y_mov (v := .int _ _) rfl) ?_
          refine AL.two (i := 1) (j := 10) (by kernel_rfl) rfl rfl rfl rfl ?_ ?_ 
          · intro hr hJ
            refine RL.call rfl (toMaker_any) ?_
            rintro vm wx1 ⟨rfl, hX1⟩
            have hY1 := hY0.trans hX1
            have hy1 := hX1.size
            refine RL.nil ?_
            refine Fin.al hr hJ (.inr hY1) ?_
            refine AL.two (i := 3) (j := 10) (by kernel_rfl) rfl rfl rfl rfl ?_ ?_ 
            · intro hr hJ
              refine RL.call rfl (toLock_any (hs1.ext (hE14.trans hY1)) (by omega)) ?_
              rintro vk wx2 ⟨hB2, hX2⟩
              have hY2 := hY1.trans hX2
              have hy2 := hX2.size
              refine RL.nil ?_
              refine Fin.al hr hJ (.inr hY2) ?_
              refine AL.two (i := 6) (j := 10) (by kernel_rfl) rfl rfl rfl rfl ?_ ?_ 
              · intro hr hJ
                refine RL.call rfl (implWornLock_any hB2.rd) ?_
                rintro r wx3 ⟨v1, rfl, hO3, hX3⟩
                obtain ⟨vo, rfl, _⟩ := id hO3
                have hY3 := hY2.trans hX3
                have hy3 := hX3.size
                replace hB2 := hB2.ext hX3
                refine RL.nil ?_
                refine Fin.al hr hJ (.inr hY3) ?_
                refine AL.y 7 rfl rfl (by kernel_rfl) (by kernel_rfl) (by kernel_rfl) rfl (y_mov (by conv => lhs; whnf)) ?_
                refine AL.y 8 rfl rfl (by kernel_rfl) (by kernel_rfl) (by kernel_rfl) rfl (y_ext0 rfl) ?_
                refine AL.y 9 rfl rfl (by kernel_rfl) (by kernel_rfl) (by kernel_rfl) rfl (y_ext1 rfl) ?_
                refine AL.one (i := 10) (by kernel_rfl) rfl rfl ?_ 
                intro hr hJ
                refine RL.alloc rfl ze28 (fun wx4 hA4 hX4 => ?_)
                have hlA := hA4.lt
                have hY4 := hY3.trans hX4
                have hy4 := hX4.size
                replace hB2 := hB2.ext hX4
                replace hO3 := hO3.ext hX4
                refine RL.nil ?_
                refine Fin.al hr hJ (.inr hY4) ?_
                refine AL.one (i := 11) (by kernel_rfl) rfl rfl ?_ 
                intro hr hJ
                refine RL.stores ag28 (hA4) rfl rfl rfl rfl (hO3.one) (fun wx5 hV5 hg5 => ?_)
                replace hV5 : VR wx5 wx3.heap.size [vo] := hV5
                have hy5 := hg5.size
                have hMM : Mod wx3.heap.size (wx3.heap.size + 1) wx4 wx5 := grown_mod hg5 (fun k hk => by simp only [Option.some.injEq] at hk; omega)
                have hfo := hO3.mod hMM (by omega)
                have hY5 := hY4.then_mod hMM (by omega)
                refine RL.nil ?_
                refine Fin.al hr hJ (.inr hY5) ?_
                refine AL.one (i := 12) (by kernel_rfl) rfl rfl ?_ 
                intro hr hJ
                refine RL.y rfl (y_asg (v := .int _ _) rfl) ?_
                refine RL.nil ?_
                refine Fin.al hr hJ (.inr hY5) ?_
                refine AL.nil (by kernel_rfl) ?_
                refine Fin.le ?_
                exact ⟨_, _, _, _, ⟨rfl, rfl, rfl, rfl, rfl, rfl, trivial⟩, hV5, hfo, (by omega), (by omega), hY5⟩
              · intro hr hJ
                refine RL.alloc rfl ze28 (fun wx3 hA3 hX3 => ?_)
                have hlA := hA3.lt
                have hY3 := hY2.trans hX3
                have hy3 := hX3.size
                replace hB2 := hB2.ext hX3
                refine RL.nil ?_
                refine Fin.al hr hJ (.inr hY3) ?_
                refine AL.one (i := 6) (by kernel_rfl) rfl rfl ?_ 
                intro hr hJ
                refine RL.call rfl (implWornLock_any hB2.rd) ?_
                rintro r wx4 ⟨v1, rfl, hO4, hX4⟩
                obtain ⟨vo, rfl, _⟩ := id hO4
                have hY4 := hY3.trans hX4
                have hy4 := hX4.size
                replace hA3 := hA3.ext hX4
                replace hB2 := hB2.ext hX4
                refine RL.nil ?_
                refine Fin.al hr hJ (.inr hY4) ?_
                refine AL.y 7 rfl rfl (by kernel_rfl) (by kernel_rfl) (by kernel_rfl) rfl (y_mov (by conv => lhs; whnf)) ?_
                refine AL.y 8 rfl rfl (by kernel_rfl) (by kernel_rfl) (by kernel_rfl) rfl (y_ext0 rfl) ?_
                refine AL.y 9 rfl rfl (by kernel_rfl) (by kernel_rfl) (by kernel_rfl) rfl (y_ext1 rfl) ?_
                refine AL.one (i := 11) (by kernel_rfl) rfl rfl ?_ 
                intro hr hJ
                refine RL.stores ag28 (hA3) rfl rfl rfl rfl (hO4.one) (fun wx5 hV5 hg5 => ?_)
                replace hV5 : VR wx5 wx2.heap.size [vo] := hV5
                have hy5 := hg5.size
                have hMM : Mod wx2.heap.size (wx2.heap.size + 1) wx4 wx5 := grown_mod hg5 (fun k hk => by simp only [Option.some.injEq] at hk; omega)
                have hfo := hO4.mod hMM (by omega)
                have hY5 := hY4.then_mod hMM (by omega)
                refine RL.nil ?_
                refine Fin.al hr hJ (.inr hY5) ?_
                refine AL.one (i := 12) (by kernel_rfl) rfl rfl ?_ 
                intro hr hJ
                refine RL.y rfl (y_asg (v := .int _ _) rfl) ?_
                refine RL.nil ?_
                refine Fin.al hr hJ (.inr hY5) ?_
                refine AL.nil (by kernel_rfl) ?_
                refine Fin.le ?_
                exact ⟨_, _, _, _, ⟨rfl, rfl, rfl, rfl, rfl, rfl, trivial⟩, hV5, hfo, (by omega), (by omega), hY5⟩
            · intro hr hJ
              refine RL.alloc rfl ze28 (fun wx2 hA2 hX2 => ?_)
              have hlA := hA2.lt
              have hY2 := hY1.trans hX2
              have hy2 := hX2.size
              refine RL.nil ?_
              refine Fin.al hr hJ (.inr hY2) ?_
              refine AL.one (i := 3) (by kernel_rfl) rfl rfl ?_ 
              intro hr hJ
              refine RL.call rfl (toLock_any (hs1.ext (hE14.trans hY2)) (by omega)) ?_
              rintro vk wx3 ⟨hB3, hX3⟩
              have hY3 := hY2.trans hX3
              have hy3 := hX3.size
              replace hA2 := hA2.ext hX3
              refine RL.nil ?_
              refine Fin.al hr hJ (.inr hY3) ?_
              refine AL.one (i := 6) (by kernel_rfl) rfl rfl ?_ 
              intro hr hJ
              refine RL.call rfl (implWornLock_any hB3.rd) ?_
              rintro r wx4 ⟨v1, rfl, hO4, hX4⟩
              obtain ⟨vo, rfl, _⟩ := id hO4
              have hY4 := hY3.trans hX4
              have hy4 := hX4.size
              replace hA2 := hA2.ext hX4
              replace hB3 := hB3.ext hX4
              refine RL.nil ?_
              refine Fin.al hr hJ (.inr hY4) ?_
              refine AL.y 7 rfl rfl (by kernel_rfl) (by kernel_rfl) (by kernel_rfl) rfl (y_mov (by conv => lhs; whnf)) ?_
              refine AL.y 8 rfl rfl (by kernel_rfl) (by kernel_rfl) (by kernel_rfl) rfl (y_ext0 rfl) ?_
              refine AL.y 9 rfl rfl (by kernel_rfl) (by kernel_rfl) (by kernel_rfl) rfl (y_ext1 rfl) ?_
              refine AL.one (i := 11) (by kernel_rfl) rfl rfl ?_ 
              intro hr hJ
              refine RL.stores ag28 (hA2) rfl rfl rfl rfl (hO4.one) (fun wx5 hV5 hg5 => ?_)
              replace hV5 : VR wx5 wx1.heap.size [vo] := hV5
              have hy5 := hg5.size
              have hMM : Mod wx1.heap.size (wx1.heap.size + 1) wx4 wx5 := grown_mod hg5 (fun k hk => by simp only [Option.some.injEq] at hk; omega)
              have hfo := hO4.mod hMM (by omega)
              have hY5 := hY4.then_mod hMM (by omega)
              refine RL.nil ?_
              refine Fin.al hr hJ (.inr hY5) ?_
              refine AL.one (i := 12) (by kernel_rfl) rfl rfl ?_ 
              intro hr hJ
              refine RL.y rfl (y_asg (v := .int _ _) rfl) ?_
              refine RL.nil ?_
              refine Fin.al hr hJ (.inr hY5) ?_
              refine AL.nil (by kernel_rfl) ?_
              refine Fin.le ?_
              exact ⟨_, _, _, _, ⟨rfl, rfl, rfl, rfl, rfl, rfl, trivial⟩, hV5, hfo, (by omega), (by omega), hY5⟩
          · intro hr hJ
            refine RL.alloc rfl ze28 (fun wx1 hA1 hX1 => ?_)
            have hlA := hA1.lt
            have hY1 := hY0.trans hX1
            have hy1 := hX1.size
            refine RL.nil ?_
            refine Fin.al hr hJ (.inr hY1) ?_
            refine AL.one (i := 1) (by kernel_rfl) rfl rfl ?_ 
            intro hr hJ
            refine RL.call rfl (toMaker_any) ?_
            rintro vm wx2 ⟨rfl, hX2⟩
            have hY2 := hY1.trans hX2
            have hy2 := hX2.size
            replace hA1 := hA1.ext hX2
            refine RL.nil ?_
            refine Fin.al hr hJ (.inr hY2) ?_
            refine AL.one (i := 3) (by kernel_rfl) rfl rfl ?_ 
            intro hr hJ
            refine RL.call rfl (toLock_any (hs1.ext (hE14.trans hY2)) (by omega)) ?_
            rintro vk wx3 ⟨hB3, hX3⟩
            have hY3 := hY2.trans hX3
            have hy3 := hX3.size
            replace hA1 := hA1.ext hX3
            refine RL.nil ?_
            refine Fin.al hr hJ (.inr hY3) ?_
            refine AL.one (i := 6) (by kernel_rfl) rfl rfl ?_ 
            intro hr hJ
            refine RL.call rfl (implWornLock_any hB3.rd) ?_
            rintro r wx4 ⟨v1, rfl, hO4, hX4⟩
            obtain ⟨vo, rfl, _⟩ := id hO4
            have hY4 := hY3.trans hX4
            have hy4 := hX4.size
            replace hA1 := hA1.ext hX4
            replace hB3 := hB3.ext hX4
            refine RL.nil ?_
            refine Fin.al hr hJ (.inr hY4) ?_
            refine AL.y 7 rfl rfl (by kernel_rfl) (by kernel_rfl) (by kernel_rfl) rfl (y_mov (by conv => lhs; whnf)) ?_
            refine AL.y 8 rfl rfl (by kernel_rfl) (by kernel_rfl) (by kernel_rfl) rfl (y_ext0 rfl) ?_
            refine AL.y 9 rfl rfl (by kernel_rfl) (by kernel_rfl) (by kernel_rfl) rfl (y_ext1 rfl) ?_
            refine AL.one (i := 11) (by kernel_rfl) rfl rfl ?_ 
            intro hr hJ
            refine RL.stores ag28 (hA1) rfl rfl rfl rfl (hO4.one) (fun wx5 hV5 hg5 => ?_)
            replace hV5 : VR wx5 w14.drew.heap.size [vo] := hV5
            have hy5 := hg5.size
            have hMM : Mod w14.drew.heap.size (w14.drew.heap.size + 1) wx4 wx5 := grown_mod hg5 (fun k hk => by simp only [Option.some.injEq] at hk; omega)
            have hfo := hO4.mod hMM (by omega)
            have hY5 := hY4.then_mod hMM (by omega)
            refine RL.nil ?_
            refine Fin.al hr hJ (.inr hY5) ?_
            refine AL.one (i := 12) (by kernel_rfl) rfl rfl ?_ 
            intro hr hJ
            refine RL.y rfl (y_asg (v := .int _ _) rfl) ?_
            refine RL.nil ?_
            refine Fin.al hr hJ (.inr hY5) ?_
            refine AL.nil (by kernel_rfl) ?_
            refine Fin.le ?_
            exact ⟨_, _, _, _, ⟨rfl, rfl, rfl, rfl, rfl, rfl, trivial⟩, hV5, hfo, (by omega), (by omega), hY5⟩
        · rintro E wr ⟨br, Mr, Ur, vor, hag, hVr, hor, hdr, ⟨hdr1, hdr2, hdr3, hdr4, hdr5⟩, hXr⟩
          refine CW.re _ hag rfl ?_
          replace hop := hop.ext hXr
          replace ho11 := ho11.ext hXr
          replace ho13 := ho13.ext hXr
          replace ho9x0 := ho9x0.ext hXr
          replace hV1 := hV1.ext hXr
          replace hV2 := hV2.ext hXr
          replace hVp := hVp.ext hXr
          replace hV6 := hV6.ext hXr
          replace hVq := hVq.ext hXr
          have hEr := hE14.trans hXr
          have hszr := hXr.size
          refine CW.seq ?_
          refine CW.seq ?_
          refine CW.region ?_
          refine RL.y rfl (y_loads ag28 rfl (eqw (hVr)) rfl) ?_
          refine RL.y rfl (y_loads ag28 rfl (eqw (hVp)) rfl) ?_
          refine RL.call rfl (eqLock_any hor.rd hop.rd) ?_
          rintro r w15 ⟨rfl, hX15⟩
          have hsz15 := hX15.size
          replace hop := hop.ext hX15
          replace ho11 := ho11.ext hX15
          replace ho13 := ho13.ext hX15
          replace ho9x0 := ho9x0.ext hX15
          replace hor := hor.ext hX15
          replace hV1 := hV1.ext hX15
          replace hV2 := hV2.ext hX15
          replace hVp := hVp.ext hX15
          replace hV6 := hV6.ext hX15
          replace hVq := hVq.ext hX15
          replace hVr := hVr.ext hX15
          have hE15 := hEr.trans hX15
          refine RL.y rfl (y_not rfl) ?_
          refine RL.y rfl (y_mov (v := .bool _) rfl) ?_
          refine RL.force (t := 101) false rfl rfl (by first | (simp; done) | exact decide_eq_false (by omega) | (simp [*]; done) | assumption) ?_
          refine RL.take (t := 101) rfl rfl rfl ?_
          refine RL.y rfl (y_mov (v := .int _ _) rfl) ?_
          refine RL.take (t := 101) rfl rfl rfl ?_
          refine RL.y rfl (y_mov (v := .int _ _) rfl) ?_
          refine RL.take (t := 101) rfl rfl rfl ?_
          refine RL.y rfl (y_ne rfl rfl) ?_
          refine RL.y rfl (y_pickF (v := .bool _) rfl rfl) ?_
          refine RL.nil ?_
          refine Fin.next ?_
          refine CW.condF rfl (by first | (simp; done) | exact decide_eq_false (by omega) | (simp [*]; done) | assumption) ?_
          refine CW.skip ?_
          refine Fin.next ?_
          refine CW.seq ?_
          refine CW.region ?_
          refine RL.y rfl (y_asg rfl) ?_
          refine RL.nil ?_
          refine Fin.next ?_
          refine CW.seq ?_
          refine CW.region ?_
          refine RL.y rfl (y_loads ag28 rfl (eqw (hVq)) rfl) ?_
          refine RL.y rfl (y_mov (v := .int _ _) rfl) ?_
          refine RL.call rfl (heldLock_any ho13.rd (by omega) (by omega)) ?_
          rintro r w16 ⟨rfl, hX16⟩
          have hsz16 := hX16.size
          replace hop := hop.ext hX16
          replace ho11 := ho11.ext hX16
          replace ho13 := ho13.ext hX16
          replace ho9x0 := ho9x0.ext hX16
          replace hor := hor.ext hX16
          replace hV1 := hV1.ext hX16
          replace hV2 := hV2.ext hX16
          replace hVp := hVp.ext hX16
          replace hV6 := hV6.ext hX16
          replace hVq := hVq.ext hX16
          replace hVr := hVr.ext hX16
          have hE16 := hE15.trans hX16
          refine RL.y rfl (y_asg (v := .int _ _) rfl) ?_
          refine RL.nil ?_
          refine Fin.next ?_
          refine CW.seq ?_
          refine CW.seq ?_
          refine CW.region ?_
          refine RL.y rfl (y_mov (v := .int _ _) rfl) ?_
          refine RL.y rfl (y_lt rfl rfl) ?_
          refine RL.nil ?_
          refine Fin.next ?_
          refine CW.condF rfl (by first | (simp; done) | exact decide_eq_false (by omega) | (simp [*]; done) | assumption) ?_
          refine CW.skip ?_
          refine Fin.next ?_
          refine CW.seq ?_
          refine CW.seq ?_
          refine CW.region ?_
          refine RL.y rfl (y_mov (v := .int _ _) rfl) ?_
          refine RL.y rfl (y_mov (v := .int _ _) rfl) ?_
          refine RL.y rfl (y_ne rfl rfl) ?_
          refine RL.nil ?_
          refine Fin.next ?_
          refine CW.condF rfl (by first | (simp; done) | exact decide_eq_false (by omega) | (simp [*]; done) | assumption) ?_
          refine CW.skip ?_
          refine Fin.next ?_
          refine CW.seq ?_
          refine CW.region ?_
          refine RL.y rfl (y_asg rfl) ?_
          refine RL.nil ?_
          refine Fin.next ?_
          refine CW.ret ?_
          refine Fin.ret1 rfl (by conv => lhs; whnf) ?_
          exact ⟨_, rfl, rfl, hE16⟩
namespace fnExactWornLock
open Go.ChangeShapes Go.WideShapes Go.ChangeAt Go.RowKit
set_option linter.unusedVariables false
theorem own : ownKnob Try.prog.godebug = none := by kernel_rfl
theorem laidOut : laidOutB Try.prog = true := by kernel_rfl
set_option maxRecDepth 100000 in
theorem lifted (os : Os) (started : os.Started) (H : Type) (enc : TypeId × Value → H) :
    ReturnsInHanded {} Try.checked os 5 .any (Rows.fnExactWornLockSpec.pre6 enc Try.prog Try.f5 Rows.fnExactWornLockRow.domain false) (Rows.fnExactWornLockSpec.post enc Try.prog Try.f5 false true false false) := by
  refine returnsInHanded_of_change (C := Try.checked) own started (by kernel_rfl) Try.func5
    (ChangeSpec.witness6 (enc := enc) (C := Try.checked) false ⟨#[], #[.agg #[(.int .i64 0), (.int .i64 0), (.int .i64 0), (.int .i64 0), (.int .i64 0)], .agg #[(.slice none 0 0)], .int .i64 0, .int .i64 0], []⟩ 8 (by kernel_rfl) (by kernel_rfl) (by kernel_rfl) (by kernel_rfl)) ?_
  intro W base args ds gs before hval0 hW hcnd _
  have hval : ∀ (j : Nat) t v, Try.f5.params[j]? = some t → args[j]? = some v → Value.okWide Try.prog W .any base t v := hval0
  have hW' := hW
  obtain ⟨p, q, hA0, hV, rfl, hfz, hnd⟩ := hW
  have hA : DataW.TrodAll enc Try.prog W 0 (fun _ => true) true Try.f5.params.toList args.toList ds p := hA0
  rw [Try.params5] at hA hval
  have hkeep := hA
  obtain ⟨v0, vs0, d0, ds0, p0, q0, hargs, rfl, rfl, h0, r0⟩ := trodAll_cons hA
  obtain ⟨v1, vs1, d1, ds1, p1, q1, rfl, rfl, rfl, h1, r1⟩ := trodAll_cons r0
  obtain ⟨v2, vs2, d2, ds2, p2, q2, rfl, rfl, rfl, h2, r2⟩ := trodAll_cons r1
  obtain ⟨v3, vs3, d3, ds3, p3, q3, rfl, rfl, rfl, h3, r3⟩ := trodAll_cons r2
  obtain ⟨rfl, rfl, rfl⟩ := trodAll_nil r3
  obtain rfl : args = #[v0, v1, v2, v3] := by cases args; simp_all
  obtain ⟨rfl, rfl⟩ := trodVars_none hV
  obtain ⟨ma0, mb0, mc0, md0, me0, hag0, wf0⟩ := open_agg5 Try.underlying40 rfl (by kernel_rfl) (by intro f hf; simp only [List.mem_cons, List.not_mem_nil, or_false] at hf; rcases hf with rfl | rfl | rfl | rfl | rfl <;> exact Try.underlying2) (hval 0 40 v0 rfl rfl) h0
  subst hag0
  obtain ⟨vl1, yl1, n1, hag1, tl1⟩ := open_agg1 Try.underlying41 rfl (by kernel_rfl) (hval 1 41 v1 rfl rfl) h1
  obtain ⟨ss1, hl1, wf1⟩ := open_RdSSt Try.underlying26 Try.underlying29 Try.underlying2 (by kernel_rfl) (by kernel_rfl) tl1
  obtain ⟨a2, rfl, rfl, rfl, w20⟩ := open_int Try.underlying2 (hval 2 2 v2 rfl rfl) h2
  have w2 := I64.of w20
  obtain ⟨a3, rfl, rfl, rfl, w30⟩ := open_int Try.underlying2 (hval 3 2 v3 rfl rfl) h3
  have w3 := I64.of w30
  refine (lawWornLock W ⟨ma0, mb0, mc0, md0, me0⟩ v1 ss1 ⟨vl1, hag1, hl1⟩ wf1 a2 w2 a3 w3).calls.mono fun e W' ⟨r, he, hr, hg⟩ => ?_
  subst hr
  subst he
  exact ⟨_, rfl, _, _, _, [] ++ [], _, [], hW', trodAll_cons_mk (shut_bool Try.underlying4 _) trodAll_mk0, trodAll_ext laidOut (by kernel_rfl) hkeep hg (fun x hx => hW'.lt x (List.mem_append_left _ hx)), rfl, hg.frame _, fun h => by cases h⟩
theorem over : Rows.fnExactWornLockRow.holds Try.pinned (OpenSpec.ofChange Rows.fnExactWornLockSpec) :=
  OpenClaim.holds_of_wide 5 Try.f5 rfl rfl rfl rfl rfl rfl rfl ⟨rfl, rfl, rfl, rfl, rfl⟩ rfl rfl rfl rfl rfl (by kernel_rfl) Try.func5 (by kernel_rfl)
    (of_decide_eq_true (by kernel_rfl)) (by unfold Func.isWrapper; first | (rw [if_pos (by decide +kernel)]; kernel_rfl) | (rw [if_neg (by decide +kernel)]; exact ⟨rfl, rfl⟩))
    (fun os started H enc _ => lifted os started H enc)
theorem proved : Rows.FnExactWornLockSaid := over
end fnExactWornLock
#print axioms fnExactWornLock.proved
end Go.Proofs.Ytaepdknmagaokaa
