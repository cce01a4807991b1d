/-
  Drawn buildings.
-/
import Derived.Test.YtebegkegkdmbjaaDoorFDraw
import Derived.Test.YtebegkegkdmbjaaDoorFBld1
import Derived.Test.YtebegkegkdmbjaaDoorAny
import Derived.Test.YtebegkegkdmbjaaDoorPart
namespace Go.Proofs.YtebegkegkdmbjaaDoor
open B Go.RowKit

theorem l09Valid_any {w : World} {b : Nat} (hs : Src w b) :
    Does Tryd.prog 37 #[.pointer (some ⟨b, 0, none⟩)] w (fun v' w' => ∃ ps ds, OwB w' w.heap.size w'.heap.size v' ps ds ∧ (2 ≤ ps.length ∧ ps.length ≤ 10 ∧ ds.length = ps.length) ∧ Drawn w b w') := by
  have hbw := hs.lt
  refine enter Tryd.func37 rfl 52 Tryd.ntmps37 rfl (by kernel_rfl) ?_
  refine CW.seq ?_
  refine CW.region ?_
  refine RL.alloc rfl ze25 (fun w1 hV1 hE1 => ?_)
  have hc1 := hV1.lt
  have hbw1 : b < w1.heap.size := by omega
  refine RL.nil ?_
  refine Fin.next ?_
  refine CW.seq ?_
  refine CW.region ?_
  refine RL.y rfl (y_mov (by conv => lhs; whnf)) ?_
  refine RL.call rfl (l01Next_any (hs.ext hE1) (by omega)) ?_
  rintro r w2 ⟨x, rfl, ⟨hx0, hx1, -⟩, hD2⟩
  have hx1 := hx1 (by omega)
  have hD12 : Drawn w b w2 := ⟨hD2.1, (hE1.mod _ _).trans hD2.2⟩
  have hV2 := hV1.drawn hD2 (by omega)
  refine RL.y rfl (y_add rfl rfl (IntWalk.i64_in _ (by omega))) ?_
  refine RL.y rfl (y_asg (v := .int _ _) rfl) ?_
  refine RL.nil ?_
  refine Fin.next ?_
  refine CW.seq ?_
  refine CW.region ?_
  refine RL.lit1 rfl sT22 rfl rfl (fun vp w3 hop hE3 hbp => ?_)
  refine RL.lit1 rfl sT23 rfl rfl (fun vd w4 hod hE4 hbd => ?_)
  refine RL.y rfl (y_asg (by conv => lhs; whnf)) ?_
  refine RL.y rfl (y_asg (by conv => lhs; whnf)) ?_
  refine RL.nil ?_
  refine Fin.next ?_
  refine CW.seq ?_
  refine CW.region ?_
  refine RL.lit1 rfl sT22 rfl rfl (fun vg w5 hog hE5 hbg => ?_)
  have hs2 := hD2.size
  have hs3 := hE3.size
  have hs4 := hE4.size
  have hl3 := (hop.lt _ hbp).2
  have hl4 := (hod.lt _ hbd).2
  obtain ⟨n, hn, hnx⟩ : ∃ n : Nat, (2 ≤ n ∧ n ≤ 10) ∧ 2 + x = (n : Int) := ⟨(2 + x).toNat, by omega, by omega⟩
  rw [hnx]
  refine RL.y rfl (y_asg (by conv => lhs; whnf)) ?_
  refine RL.nil ?_
  refine Fin.next ?_
  refine CW.seq ?_
  refine CW.seq ?_
  refine CW.region ?_
  refine RL.y rfl (y_asg rfl) ?_
  refine RL.nil ?_
  refine Fin.next ?_
  refine CW.block ?_
  refine CW.loop (fun m E w' => ∃ (i : Nat) (vp vd vg : Value) (ps : List Int) (ds : List Bool) (gs : List Int), m = n - i ∧ i ≤ n ∧ agrees E [(0, .pointer (some ⟨b, 0, none⟩)), (2, .pointer (some ⟨w.heap.size, 0, none⟩)), (3, .int .i64 (n : Int)), (4, vp), (5, vd), (6, vg), (7, .int .i64 (i : Int))] ∧ (OV w' w1.heap.size 2 vp (ints ps) ∧ OV w' w1.heap.size 4 vd (bools ds) ∧ OV w' w1.heap.size 2 vg (ints gs)) ∧ (NB vp vd ∧ NB vp vg ∧ NB vd vg) ∧ (1 ≤ i ∧ ps.length = i ∧ ds.length = i ∧ 1 ≤ gs.length ∧ gs.length ≤ i) ∧ VR w' w.heap.size [.slice none 0 0, .slice none 0 0] ∧ Drawn w1 b w') _ (⟨1, vp, vd, vg, [-1], [false], [0], rfl, by omega, ⟨rfl, rfl, rfl, rfl, rfl, rfl, rfl, trivial⟩, ⟨((hop.ext hE4).ext hE5).mono hs2, (hod.ext hE5).mono (by omega), hog.mono (by omega)⟩, ⟨nb_some hbp hbd (by omega), nb_some hbp hbg (by omega), nb_some hbd hbg (by omega)⟩, ⟨by omega, rfl, rfl, by simp, by simp⟩, ((hV2.ext hE3).ext hE4).ext hE5, ((hD2.ext hE3).ext hE4).ext hE5⟩) ?_
  · rintro m E w6 ⟨i, vp, vd, vg, ps, ds, gs, rfl, hi, hag, ⟨hop6, hod6, hog6⟩, ⟨npd, npg, ndg⟩, ⟨hi1, hpl, hdl, hg1, hgl⟩, hV6, hD6⟩
    refine CW.re _ hag rfl ?_
    refine CW.seq ?_
    refine CW.seq ?_
    refine CW.region ?_
    refine RL.y rfl (y_mov (v := .int _ _) rfl) ?_
    refine RL.y rfl (y_mov (v := .int _ _) rfl) ?_
    refine RL.y rfl (y_lt rfl rfl) ?_
    refine RL.nil ?_
    refine Fin.next ?_
    refine CW.cond rfl rfl (fun hc => ?_) (fun hc => ?_)
    · with_reducible first | (replace hc := deNF hc) | (replace hc := of_decide_eq_true hc) | (replace hc := of_decide_eq_false hc) | (replace hc := deNT hc) | (replace hc := deNN hc) | (replace hc := bnT hc) | (replace hc := bnF hc) | skip
      have hlt : i < n := by omega
      refine CW.skip ?_
      refine Fin.next ?_
      refine CW.seq ?_
      refine CW.block ?_
      refine CW.seq ?_
      refine CW.region ?_
      refine RL.y rfl (y_mov (by conv => lhs; whnf)) ?_
      refine RL.y rfl (y_mov (by conv => lhs; whnf)) ?_
      refine RL.y rfl (y_mov (by conv => lhs; whnf)) ?_
      refine RL.y rfl (y_mov (by conv => lhs; whnf)) ?_
      refine RL.y rfl (y_len sT22 hog6.sv (ints_len _) rfl) ?_
      refine RL.call rfl (l01Next_any hD6.1 (by omega)) ?_
      rintro r w7 ⟨y, rfl, ⟨hy0, hy1, -⟩, hD7⟩
      have hy1 := hy1 (by omega)
      have hyt : y.toNat < gs.length := by omega
      have hop7 := hop6.drawn hD7 (by omega)
      have hod7 := hod6.drawn hD7 (by omega)
      have hog7 := hog6.drawn hD7 (by omega)
      have hV7 := hV6.drawn hD7 (by omega)
      have hD17 := hD6.trans hD7
      refine RL.y rfl (y_ixi sT22 (eqw (hog7.sv)) hy0 (by rw [ints_len]; omega) rfl rfl) ?_
      refine RL.y rfl (y_load sc2 (eqw (hog7.sv)) (ints_at hyt) rfl) ?_
      have hs1w := hE1.size
      have hs17 := hD17.size
      have hs27 := hs2
      refine RL.app1i rfl rfl sT22 (by omega) hop7 (by omega) hD17.size rfl (fun _ => rfl) (fun u vp8 w8 hop8 hg8 hn8 => ?_)
      have hod8 := ov_other hod7 hg8 npd.symm
      have hog8 := ov_other hog7 hg8 npg.symm
      have npd8 := nb_both npd hod7.blk hn8
      have npg8 := nb_both npg hog7.blk hn8
      have hV8 := hV7.grown hg8 (fun e => by have := (hop7.lt _ e).1; omega)
      have hD8 := hD17.grown hbw1 hg8 (fun k hk => (hop7.lt _ hk).1)
      refine RL.y rfl (y_asg (by conv => lhs; whnf)) ?_
      refine RL.nil ?_
      refine Fin.next ?_
      refine CW.cut (fun E w' => ∃ dd : Bool, agrees E [(0, .pointer (some ⟨b, 0, none⟩)), (2, .pointer (some ⟨w.heap.size, 0, none⟩)), (3, .int .i64 (n : Int)), (4, vp8), (5, vd), (6, vg), (7, .int .i64 (i : Int)), (8, .bool dd)] ∧ (OV w' w1.heap.size 2 vp8 (ints (ps ++ [gs[y.toNat]])) ∧ OV w' w1.heap.size 4 vd (bools ds) ∧ OV w' w1.heap.size 2 vg (ints gs)) ∧ VR w' w.heap.size [.slice none 0 0, .slice none 0 0] ∧ Drawn w1 b w') ?_ ?_
      · refine CW.region ?_
        refine RL.y rfl (y_mov (v := .int _ _) rfl) ?_
        refine RL.y rfl (y_mov (v := .int _ _) rfl) ?_
        refine RL.y rfl (y_sub rfl rfl (IntWalk.i64_in _ (by omega))) ?_
        refine RL.y rfl (y_eq rfl rfl) ?_
        refine RL.y rfl (y_mov (v := .bool _) rfl) ?_
        refine RL.split (t := 34) rfl rfl (fun h1 => ?_) (fun h1 => ?_)
        · with_reducible first | (replace h1 := deNF h1) | (replace h1 := of_decide_eq_true h1) | (replace h1 := of_decide_eq_false h1) | (replace h1 := deNT h1) | (replace h1 := deNN h1) | (replace h1 := bnT h1) | (replace h1 := bnF h1) | skip
          refine RL.pass (t := 34) rfl rfl rfl rfl ?_
          refine RL.pass (t := 34) rfl rfl rfl rfl ?_
          refine RL.pass (t := 34) rfl rfl rfl rfl ?_
          refine RL.y rfl (y_pickT (v := .bool _) rfl rfl) ?_
          refine RL.y rfl (y_asg (v := .bool _) rfl) ?_
          refine RL.nil ?_
          refine Fin.le ?_
          exact ⟨true, ⟨rfl, rfl, rfl, rfl, rfl, rfl, rfl, rfl, trivial⟩, ⟨hop8, hod8, hog8⟩, hV8, hD8⟩
        · with_reducible first | (replace h1 := deNF h1) | (replace h1 := of_decide_eq_true h1) | (replace h1 := of_decide_eq_false h1) | (replace h1 := deNT h1) | (replace h1 := deNN h1) | (replace h1 := bnT h1) | (replace h1 := bnF h1) | skip
          refine RL.take (t := 34) rfl rfl rfl ?_
          refine RL.y rfl (y_mov (by conv => lhs; whnf)) ?_
          refine RL.take (t := 34) rfl rfl rfl ?_
          refine RL.call rfl (l01Next_any hD8.1 (by omega)) ?_
          rintro r w9 ⟨z, rfl, -, hD9⟩
          refine RL.take (t := 34) rfl rfl rfl ?_
          refine RL.y rfl (y_gt rfl rfl) ?_
          refine RL.y rfl (y_pickF (v := .bool _) rfl rfl) ?_
          refine RL.y rfl (y_asg (v := .bool _) rfl) ?_
          refine RL.nil ?_
          refine Fin.le ?_
          exact ⟨_, ⟨rfl, rfl, rfl, rfl, rfl, rfl, rfl, rfl, trivial⟩, ⟨hop8.drawn hD9 (by omega), hod8.drawn hD9 (by omega), hog8.drawn hD9 (by omega)⟩, hV8.drawn hD9 (by omega), hD8.trans hD9⟩
      · rintro E w9 ⟨dd, hag, ⟨hop9, hod9, hog9⟩, hV9, hD9⟩
        refine CW.re _ hag rfl ?_
        refine CW.seq ?_
        refine CW.region ?_
        refine RL.y rfl (y_mov (by conv => lhs; whnf)) ?_
        refine RL.y rfl (y_mov (v := .bool _) rfl) ?_
        refine RL.app1 rfl rfl sT23 (by omega) hod9 (by rw [bools_len]; omega) hD9.size rfl rfl (fun _ => rfl) (fun u vd10 w10 hod10 hg10 hn10 => ?_)
        have hod10' : OV w10 w1.heap.size 4 vd10 (bools (ds ++ [dd])) := by rw [← bools_app]; exact hod10
        have hop10 := ov_other hop9 hg10 npd8
        have hog10 := ov_other hog9 hg10 ndg.symm
        have npd10 := nb_new npd8 hop9.blk hn10
        have ndg10 := nb_both ndg hog9.blk hn10
        have hV10 := hV9.grown hg10 (fun e => by have := (hod9.lt _ e).1; omega)
        have hD10 := hD9.grown hbw1 hg10 (fun k hk => (hod9.lt _ hk).1)
        refine RL.y rfl (y_asg (by conv => lhs; whnf)) ?_
        refine RL.nil ?_
        refine Fin.next ?_
        refine CW.seq ?_
        refine CW.region ?_
        refine RL.y rfl (y_mov (v := .bool _) rfl) ?_
        refine RL.y rfl (y_not rfl) ?_
        refine RL.nil ?_
        refine Fin.next ?_
        refine CW.cond rfl rfl (fun h2 => ?_) (fun h2 => ?_)
        · with_reducible first | (replace h2 := deNF h2) | (replace h2 := of_decide_eq_true h2) | (replace h2 := of_decide_eq_false h2) | (replace h2 := deNT h2) | (replace h2 := deNN h2) | (replace h2 := bnT h2) | (replace h2 := bnF h2) | skip
          refine CW.region ?_
          refine RL.y rfl (y_mov (by conv => lhs; whnf)) ?_
          refine RL.y rfl (y_mov (v := .int _ _) rfl) ?_
          refine RL.app1i rfl rfl sT22 (by omega) hog10 (by omega) hD10.size rfl (fun _ => rfl) (fun u vg11 w11 hog11 hg11 hn11 => ?_)
          refine RL.y rfl (y_asg (by conv => lhs; whnf)) ?_
          refine RL.nil ?_
          refine Fin.blockNormal ?_
          refine Fin.next ?_
          refine CW.region ?_
          refine RL.y rfl (y_mov (v := .int _ _) rfl) ?_
          refine RL.y rfl (y_add rfl rfl (IntWalk.i64_in _ (by omega))) ?_
          refine RL.y rfl (y_asg (v := .int _ _) rfl) ?_
          refine RL.nil ?_
          refine Fin.le ?_
          exact ⟨n - (i + 1), by omega, i + 1, vp8, vd10, vg11, ps ++ [gs[y.toNat]], ds ++ [dd], gs ++ [(i : Int)], rfl, hlt, ⟨rfl, rfl, rfl, rfl, rfl, rfl, rfl, trivial⟩, ⟨ov_other hop10 hg11 npg8, ov_other hod10' hg11 ndg10, hog11⟩, ⟨npd10, nb_new npg8 hop10.blk hn11, nb_new ndg10 hod10.blk hn11⟩, ⟨by omega, by simp [hpl], by simp [hdl], by simp, by simp; omega⟩, hV10.grown hg11 (fun e => by have := (hog10.lt _ e).1; omega), hD10.grown hbw1 hg11 (fun k hk => (hog10.lt _ hk).1)⟩
        · with_reducible first | (replace h2 := deNF h2) | (replace h2 := of_decide_eq_true h2) | (replace h2 := of_decide_eq_false h2) | (replace h2 := deNT h2) | (replace h2 := deNN h2) | (replace h2 := bnT h2) | (replace h2 := bnF h2) | skip
          refine CW.skip ?_
          refine Fin.blockNormal ?_
          refine Fin.next ?_
          refine CW.region ?_
          refine RL.y rfl (y_mov (v := .int _ _) rfl) ?_
          refine RL.y rfl (y_add rfl rfl (IntWalk.i64_in _ (by omega))) ?_
          refine RL.y rfl (y_asg (v := .int _ _) rfl) ?_
          refine RL.nil ?_
          refine Fin.le ?_
          exact ⟨n - (i + 1), by omega, i + 1, vp8, vd10, vg, ps ++ [gs[y.toNat]], ds ++ [dd], gs, rfl, hlt, ⟨rfl, rfl, rfl, rfl, rfl, rfl, rfl, trivial⟩, ⟨hop10, hod10', hog10⟩, ⟨npd10, npg8, ndg10⟩, ⟨by omega, by simp [hpl], by simp [hdl], hg1, by omega⟩, hV10, hD10⟩
    · with_reducible first | (replace hc := deNF hc) | (replace hc := of_decide_eq_true hc) | (replace hc := of_decide_eq_false hc) | (replace hc := deNT hc) | (replace hc := deNN hc) | (replace hc := bnT hc) | (replace hc := bnF hc) | skip
      obtain rfl : i = n := by omega
      refine CW.exit ?_
      refine Fin.thenExit ?_
      refine Fin.thenExit ?_
      refine Fin.blockHit ?_
      refine Fin.next ?_
      refine CW.seq ?_
      refine CW.region ?_
      refine RL.y rfl (y_mov (by conv => lhs; whnf)) ?_
      refine RL.y rfl (y_mov (by conv => lhs; whnf)) ?_
      refine RL.y rfl (y_build bd25 rfl (fill_one (slice_one hop6.sv) rfl rfl (fill_one (slice_one hod6.sv) rfl rfl fill_nil))) ?_
      refine RL.stores ag25 (hV6) rfl rfl rfl rfl ((show ([vp, vd] : List Value).all (·.oneCell') = true by simp [slice_one hop6.sv, slice_one hod6.sv])) (fun w7 hV7 hg7 => ?_)
      replace hV7 : VR w7 w.heap.size [vp, vd] := hV7
      have hs7 := hg7.size
      have hM7 : Mod w.heap.size (w.heap.size + 1) w6 w7 := grown_mod hg7 (fun k hk => by simp only [Option.some.injEq] at hk; omega)
      have hD7 : Drawn w b w7 := (show Drawn w b w6 from ⟨hD6.1, (hE1.mod _ _).trans hD6.2⟩).grown hbw hg7 (fun k hk => by simp only [Option.some.injEq] at hk; omega)
      have hp7 := hop6.grown hg7 (.inl (fun e => by have := (hop6.lt _ e).1; omega))
      have hd7 := hod6.grown hg7 (.inl (fun e => by have := (hod6.lt _ e).1; omega))
      refine RL.nil ?_
      refine Fin.next ?_
      refine CW.ret ?_
      refine Fin.retc rfl ag25 rfl rfl (hV7) ?_
      exact ⟨_, rfl, ps, ds, ⟨vp, vd, rfl, ⟨hp7.mono (by omega), Nat.le_refl _, fun b hb => (hp7.lt b hb).2⟩, ⟨hd7.mono (by omega), Nat.le_refl _, fun b hb => (hd7.lt b hb).2⟩, npd⟩, ⟨by omega, by omega, by omega⟩, hD7⟩
theorem l09Draw_any {w : World} {b : Nat} (hs : Src w b) :
    Does Tryd.prog 32 #[.pointer (some ⟨b, 0, none⟩)] w (fun v' w' => ∃ ps ds, RuB w' w.heap.size w'.heap.size v' ps ds ∧ ps.length ≤ 30 ∧ Drawn w b w') := by
  have hbw := hs.lt
  refine enter Tryd.func32 rfl 73 Tryd.ntmps32 rfl (by kernel_rfl) ?_
  refine CW.seq ?_
  refine CW.region ?_
  refine RL.alloc rfl ze25 (fun w1 hV1 hE1 => ?_)
  have hc1 := hV1.lt
  have hbw1 : b < w1.heap.size := by omega
  refine RL.nil ?_
  refine Fin.next ?_
  refine CW.seq ?_
  refine CW.region ?_
  refine RL.y rfl (y_mov (by conv => lhs; whnf)) ?_
  refine RL.call rfl (l09Valid_any (hs.ext hE1)) ?_
  rintro v w2 ⟨ps, ds, ho2, hlen, hD2⟩
  obtain ⟨vp, vd, rfl, hop2, hod2, hnb⟩ := ho2
  replace hop2 := hop2.ov
  replace hod2 := hod2.ov
  have hV2 := hV1.drawn hD2 (by omega)
  have hs2 := hD2.size
  refine RL.alloc rfl ze25 (fun w3 hW3 hE3 => ?_)
  have hw3 := hW3.lt
  refine RL.stores ag25 (hW3) rfl rfl rfl rfl ((show ([vp, vd] : List Value).all (·.oneCell') = true by simp [slice_one hop2.sv, slice_one hod2.sv])) (fun w4 hW4 hg4 => ?_)
  replace hW4 : VR w4 w2.heap.size [vp, vd] := hW4
  have hE24 : Ext w2 w4 := hE3.grown hg4 (fun b hb => by simp only [Option.some.injEq] at hb; omega)
  have hs4 := hE24.size
  have hV4 := hV2.ext hE24
  have hop4 := hop2.ext hE24
  have hod4 := hod2.ext hE24
  have hD4 := hD2.ext hE24
  refine RL.nil ?_
  refine Fin.next ?_
  refine CW.seq ?_
  refine CW.region ?_
  refine RL.y rfl (y_mov (by conv => lhs; whnf)) ?_
  refine RL.y rfl (y_fa fa25_0 rfl rfl) ?_
  refine RL.y rfl (y_loadv sc22 (eqw (hW4)) rfl rfl) ?_
  refine RL.y rfl (y_len sT22 hop4.sv (ints_len _) rfl) ?_
  refine RL.call rfl (l01Next_any hD4.1 (by omega)) ?_
  rintro r w5 ⟨k, rfl, ⟨hk0, hk1, -⟩, hD5⟩
  replace hk1 := hk1 (by omega)
  obtain ⟨kn, rfl⟩ : ∃ n : Nat, k = (n : Int) := ⟨k.toNat, by omega⟩
  have hkp : kn < ps.length := by omega
  have hkd : kn < ds.length := by omega
  refine RL.y rfl (y_asg (v := .int _ _) rfl) ?_
  refine RL.nil ?_
  refine Fin.next ?_
  refine CW.seq ?_
  refine CW.seq ?_
  refine CW.region ?_
  refine RL.y rfl (y_mov (by conv => lhs; whnf)) ?_
  refine RL.call rfl (l01Next_any hD5.1 (by omega)) ?_
  rintro r w6 ⟨y, rfl, -, hD6⟩
  have hD46 := hD5.trans hD6
  have hs6 := hD46.size
  have hV6 := hV4.drawn hD46 (by omega)
  have hW6 := hW4.drawn hD46 (by omega)
  have hop6 := hop4.drawn hD46 (by omega)
  have hod6 := hod4.drawn hD46 (by omega)
  replace hD6 := hD4.trans hD46
  clear hV4 hW4 hop4 hod4 hD46 hD5
  have hX6 : Drawn w6 b w6.drew := (Drawn.refl hD6.1).ext (Ext.drew _)
  refine RL.nil ?_
  refine Fin.next ?_
  refine CW.block ?_
  refine CW.seq ?_
  refine CW.region ?_
  refine RL.y rfl (y_eq rfl rfl) ?_
  refine RL.y rfl (y_asg (v := .bool _) rfl) ?_
  refine RL.nil ?_
  refine Fin.next ?_
  refine CW.cond rfl rfl (fun hc0 => ?_) (fun hc0 => ?_)
  · with_reducible first | (replace hc0 := deNF hc0) | (replace hc0 := of_decide_eq_true hc0) | (replace hc0 := of_decide_eq_false hc0) | (replace hc0 := deNT hc0) | (replace hc0 := deNN hc0) | (replace hc0 := bnT hc0) | (replace hc0 := bnF hc0) | skip
    refine CW.any (Drawn w6 b) [7, 8, 10] mixed rfl (hX6) ?_
    refine AL.y 0 rfl rfl (by kernel_rfl) (by kernel_rfl) (by kernel_rfl) rfl (y_fa fa25_0 rfl rfl) ?_
    refine AL.y 1 rfl rfl (by kernel_rfl) (by kernel_rfl) (by kernel_rfl) rfl (y_loadv sc22 (fun _ hC => (hW6).drawn hC (by omega)) rfl rfl) ?_
    refine AL.y 2 rfl rfl (by kernel_rfl) (by kernel_rfl) (by kernel_rfl) rfl (y_mov (v := .int _ _) rfl) ?_
    refine AL.y 3 rfl rfl (by kernel_rfl) (by kernel_rfl) (by kernel_rfl) rfl (y_mov (by conv => lhs; whnf)) ?_
    refine AL.y 4 rfl rfl (by kernel_rfl) (by kernel_rfl) (by kernel_rfl) rfl (y_mov (v := .int _ _) rfl) ?_
    refine AL.y 5 rfl rfl (by kernel_rfl) (by kernel_rfl) (by kernel_rfl) rfl (y_mov (v := .int _ _) rfl) ?_
    refine AL.y 6 rfl rfl (by kernel_rfl) (by kernel_rfl) (by kernel_rfl) rfl (y_add rfl rfl (IntWalk.i64_in _ (by omega))) ?_
    refine AL.one (i := 7) (by kernel_rfl) rfl rfl ?_ 
    intro hr hJ
    refine RL.lits [.int .i64 (-1), .int .i64 0, .int .i64 (kn : Int), .int .i64 ((kn : Int) + 1)] rfl sT22 rfl (by omega) (by simp [Value.oneCell']) rfl (fun vq w7 hoq hE7 hbq => ?_)
    have hX7 : Drawn w6 b w7 := hX6.ext hE7
    refine RL.nil ?_
    refine Fin.al hr hJ (.inr hX7) ?_
    refine AL.one (i := 8) (by kernel_rfl) rfl rfl ?_ 
    intro hr hJ
    refine RL.call rfl (l01Pick_any (xs := [-1, 0, (kn : Int), (kn : Int) + 1]) hX7.1 hoq.sv (by simp) (fun x hx => by have := (hoq.lt x hx).1; have := hX6.size; omega)) ?_
    rintro r w8 ⟨z, rfl, -, hD8⟩
    have hX8 : Drawn w6 b w8 := hX7.trans hD8
    have hs8 := hX8.size
    refine RL.nil ?_
    refine Fin.al hr hJ (.inr hX8) ?_
    refine AL.y 9 rfl rfl (by kernel_rfl) (by kernel_rfl) (by kernel_rfl) rfl (y_ixa sT22 (fun _ hC => (hop6.drawn hC (by omega)).sv) (k := kn) (ints_lt hkp) rfl rfl) ?_
    refine AL.one (i := 10) (by kernel_rfl) rfl rfl ?_ 
    intro hr hJ
    refine RL.store sT22 (hop6.drawn hX8 (by omega)) (k := kn) (x := .int .i64 z) (ints_lt hkp) rfl rfl rfl (fun w9 hop9 hg9 => ?_)
    rw [ints_set] at hop9
    have hs9 := hg9.size
    have hV9 := (hV6.drawn hX8 (by omega)).grown hg9 (fun e => by have := (hop6.lt _ e).1; omega)
    have hW9 := (hW6.drawn hX8 (by omega)).grown hg9 (fun e => by have := (hop2.lt _ e).2; omega)
    have hod9 := ov_other (hod6.drawn hX8 (by omega)) hg9 hnb.symm
    have hD9 : Drawn w1 b w9 := (hD6.trans hX8).grown hbw1 hg9 (fun k hk => (hop6.lt _ hk).1)
    refine RL.nil ?_
    refine Fin.al hr hJ (by first | exact .inl (by kernel_rfl) | (refine .inr ?_; assumption)) ?_
    refine AL.nil (by kernel_rfl) ?_
    refine Fin.blockNormal ?_
    refine Fin.next ?_
    refine CW.seq ?_
    refine CW.region ?_
    refine RL.y rfl (y_loads ag25 rfl (eqw (hW9)) rfl) ?_
    refine RL.stores ag25 (hV9) rfl rfl rfl rfl ((show ([vp, vd] : List Value).all (·.oneCell') = true by simp [slice_one hop9.sv, slice_one hod9.sv])) (fun w10 hV10 hg10 => ?_)
    replace hV10 : VR w10 w.heap.size [vp, vd] := hV10
    have hs10 := hg10.size
    have hD10 : Drawn w b w10 := (show Drawn w b w9 from ⟨hD9.1, (hE1.mod _ _).trans hD9.2⟩).grown hbw hg10 (fun k hk => by simp only [Option.some.injEq] at hk; omega)
    have hop10 := hop9.grown hg10 (.inl (fun e => by have := (hop9.lt _ e).1; omega))
    have hod10 := hod9.grown hg10 (.inl (fun e => by have := (hod9.lt _ e).1; omega))
    refine RL.nil ?_
    refine Fin.next ?_
    refine CW.ret ?_
    refine Fin.retc rfl ag25 rfl rfl (hV10) ?_
    exact ⟨_, rfl, _, ds, ⟨vp, vd, rfl, hop10.sv, hod10.sv, (fun x hx => by have := hop10.lt x hx; omega), (fun x hx => by have := hod10.lt x hx; omega), Nat.le_refl _⟩, by simp; omega, hD10⟩
  · with_reducible first | (replace hc0 := deNF hc0) | (replace hc0 := of_decide_eq_true hc0) | (replace hc0 := of_decide_eq_false hc0) | (replace hc0 := deNT hc0) | (replace hc0 := deNN hc0) | (replace hc0 := bnT hc0) | (replace hc0 := bnF hc0) | skip
    refine CW.seq ?_
    refine CW.region ?_
    refine RL.y rfl (y_eq rfl rfl) ?_
    refine RL.y rfl (y_asg (v := .bool _) rfl) ?_
    refine RL.nil ?_
    refine Fin.next ?_
    refine CW.cond rfl rfl (fun hc1b => ?_) (fun hc1b => ?_)
    · with_reducible first | (replace hc1b := deNF hc1b) | (replace hc1b := of_decide_eq_true hc1b) | (replace hc1b := of_decide_eq_false hc1b) | (replace hc1b := deNT hc1b) | (replace hc1b := deNN hc1b) | (replace hc1b := bnT hc1b) | (replace hc1b := bnF hc1b) | skip
      refine CW.any (Drawn w6 b) [10] mixed rfl (hX6) ?_
      refine AL.y 0 rfl rfl (by kernel_rfl) (by kernel_rfl) (by kernel_rfl) rfl (y_fa fa25_1 rfl rfl) ?_
      refine AL.y 1 rfl rfl (by kernel_rfl) (by kernel_rfl) (by kernel_rfl) rfl (y_loadv sc23 (fun _ hC => (hW6).drawn hC (by omega)) rfl rfl) ?_
      refine AL.y 2 rfl rfl (by kernel_rfl) (by kernel_rfl) (by kernel_rfl) rfl (y_mov (v := .int _ _) rfl) ?_
      refine AL.y 3 rfl rfl (by kernel_rfl) (by kernel_rfl) (by kernel_rfl) rfl (y_fa fa25_1 rfl rfl) ?_
      refine AL.y 4 rfl rfl (by kernel_rfl) (by kernel_rfl) (by kernel_rfl) rfl (y_loadv sc23 (fun _ hC => (hW6).drawn hC (by omega)) rfl rfl) ?_
      refine AL.y 5 rfl rfl (by kernel_rfl) (by kernel_rfl) (by kernel_rfl) rfl (y_mov (v := .int _ _) rfl) ?_
      refine AL.y 6 rfl rfl (by kernel_rfl) (by kernel_rfl) (by kernel_rfl) rfl (y_ixa sT23 (fun _ hC => (hod6.drawn hC (by omega)).sv) (k := kn) (bools_lt hkd) rfl rfl) ?_
      refine AL.y 7 rfl rfl (by kernel_rfl) (by kernel_rfl) (by kernel_rfl) rfl (y_load sc4 (fun _ hC => (hod6.drawn hC (by omega)).sv) (bools_at hkd) rfl) ?_
      refine AL.y 8 rfl rfl (by kernel_rfl) (by kernel_rfl) (by kernel_rfl) rfl (y_not rfl) ?_
      refine AL.y 9 rfl rfl (by kernel_rfl) (by kernel_rfl) (by kernel_rfl) rfl (y_ixa sT23 (fun _ hC => (hod6.drawn hC (by omega)).sv) (k := kn) (bools_lt hkd) rfl rfl) ?_
      refine AL.one (i := 10) (by kernel_rfl) rfl rfl ?_ 
      intro hr hJ
      refine RL.store sT23 (hod6.drawn hX6 (by omega)) (k := kn) (x := .bool (!ds[kn])) (bools_lt hkd) rfl rfl rfl (fun w9 hod9 hg9 => ?_)
      rw [bools_set] at hod9
      have hs9 := hg9.size
      have hs8 := hX6.size
      have hV9 := (hV6.drawn hX6 (by omega)).grown hg9 (fun e => by have := (hod6.lt _ e).1; omega)
      have hW9 := (hW6.drawn hX6 (by omega)).grown hg9 (fun e => by have := (hod2.lt _ e).2; omega)
      have hop9 := ov_other (hop6.drawn hX6 (by omega)) hg9 hnb
      have hD9 : Drawn w1 b w9 := (hD6.trans hX6).grown hbw1 hg9 (fun k hk => (hod6.lt _ hk).1)
      refine RL.nil ?_
      refine Fin.al hr hJ (by first | exact .inl (by kernel_rfl) | (refine .inr ?_; assumption)) ?_
      refine AL.nil (by kernel_rfl) ?_
      refine Fin.blockNormal ?_
      refine Fin.next ?_
      refine CW.seq ?_
      refine CW.region ?_
      refine RL.y rfl (y_loads ag25 rfl (eqw (hW9)) rfl) ?_
      refine RL.stores ag25 (hV9) rfl rfl rfl rfl ((show ([vp, vd] : List Value).all (·.oneCell') = true by simp [slice_one hop9.sv, slice_one hod9.sv])) (fun w10 hV10 hg10 => ?_)
      replace hV10 : VR w10 w.heap.size [vp, vd] := hV10
      have hs10 := hg10.size
      have hD10 : Drawn w b w10 := (show Drawn w b w9 from ⟨hD9.1, (hE1.mod _ _).trans hD9.2⟩).grown hbw hg10 (fun k hk => by simp only [Option.some.injEq] at hk; omega)
      have hop10 := hop9.grown hg10 (.inl (fun e => by have := (hop9.lt _ e).1; omega))
      have hod10 := hod9.grown hg10 (.inl (fun e => by have := (hod9.lt _ e).1; omega))
      refine RL.nil ?_
      refine Fin.next ?_
      refine CW.ret ?_
      refine Fin.retc rfl ag25 rfl rfl (hV10) ?_
      exact ⟨_, rfl, ps, _, ⟨vp, vd, rfl, hop10.sv, hod10.sv, (fun x hx => by have := hop10.lt x hx; omega), (fun x hx => by have := hod10.lt x hx; omega), Nat.le_refl _⟩, by omega, hD10⟩
    · with_reducible first | (replace hc1b := deNF hc1b) | (replace hc1b := of_decide_eq_true hc1b) | (replace hc1b := of_decide_eq_false hc1b) | (replace hc1b := deNT hc1b) | (replace hc1b := deNN hc1b) | (replace hc1b := bnT hc1b) | (replace hc1b := bnF hc1b) | skip
      refine CW.seq ?_
      refine CW.region ?_
      refine RL.y rfl (y_eq rfl rfl) ?_
      refine RL.y rfl (y_asg (v := .bool _) rfl) ?_
      refine RL.nil ?_
      refine Fin.next ?_
      refine CW.cond rfl rfl (fun hc2 => ?_) (fun hc2 => ?_)
      · with_reducible first | (replace hc2 := deNF hc2) | (replace hc2 := of_decide_eq_true hc2) | (replace hc2 := of_decide_eq_false hc2) | (replace hc2 := deNT hc2) | (replace hc2 := deNN hc2) | (replace hc2 := bnT hc2) | (replace hc2 := bnF hc2) | skip
        refine CW.seq ?_
        refine CW.any (Drawn w6 b) [9] mixed rfl (hX6) ?_
        refine AL.y 0 rfl rfl (by kernel_rfl) (by kernel_rfl) (by kernel_rfl) rfl (y_fa fa25_0 rfl rfl) ?_
        refine AL.y 1 rfl rfl (by kernel_rfl) (by kernel_rfl) (by kernel_rfl) rfl (y_loadv sc22 (fun _ hC => (hW6).drawn hC (by omega)) rfl rfl) ?_
        refine AL.y 2 rfl rfl (by kernel_rfl) (by kernel_rfl) (by kernel_rfl) rfl (y_mov (v := .int _ _) rfl) ?_
        refine AL.y 3 rfl rfl (by kernel_rfl) (by kernel_rfl) (by kernel_rfl) rfl (y_cutH sT22 (fun _ hC => (hop6.drawn hC (by omega)).sv) (h := kn) (by rw [ints_len]; omega) rfl rfl ) ?_
        refine AL.y 4 rfl rfl (by kernel_rfl) (by kernel_rfl) (by kernel_rfl) rfl (y_fa fa25_1 rfl rfl) ?_
        refine AL.y 5 rfl rfl (by kernel_rfl) (by kernel_rfl) (by kernel_rfl) rfl (y_loadv sc23 (fun _ hC => (hW6).drawn hC (by omega)) rfl rfl) ?_
        refine AL.y 6 rfl rfl (by kernel_rfl) (by kernel_rfl) (by kernel_rfl) rfl (y_mov (v := .int _ _) rfl) ?_
        refine AL.y 7 rfl rfl (by kernel_rfl) (by kernel_rfl) (by kernel_rfl) rfl (y_cutH sT23 (fun _ hC => (hod6.drawn hC (by omega)).sv) (h := kn) (by rw [bools_len]; omega) rfl rfl ) ?_
        have hcp := (hop6.drawn hX6 (by omega)).head (k := kn) (by rw [ints_len]; omega)
        have hcd := (hod6.drawn hX6 (by omega)).head (k := kn) (by rw [bools_len]; omega)
        rw [show (ints ps).take kn = ints (ps.take kn) from by simp [ints]] at hcp
        rw [show (bools ds).take kn = bools (ds.take kn) from by simp [bools]] at hcd
        refine AL.y 8 rfl rfl (by kernel_rfl) (by kernel_rfl) (by kernel_rfl) rfl (y_build bd25 rfl (fill_one (slice_one hcp.sv) rfl rfl (fill_one (slice_one hcd.sv) rfl rfl fill_nil))) ?_
        refine AL.one (i := 9) (by kernel_rfl) rfl rfl ?_ 
        intro hr hJ
        refine RL.stores ag25 ((hV6.drawn hX6 (by omega))) rfl rfl rfl rfl ((show ([vcut vp 0 kn, vcut vd 0 kn] : List Value).all (·.oneCell') = true by simp [slice_one hcp.sv, slice_one hcd.sv])) (fun w10 hV10 hg10 => ?_)
        replace hV10 : VR w10 w.heap.size [vcut vp 0 kn, vcut vd 0 kn] := hV10
        have hs10 := hg10.size
        have hs8 := hX6.size
        have hD10 : Drawn w b w10 := (show Drawn w b w6.drew from ⟨hX6.1, (hE1.mod _ _).trans (hD6.trans hX6).2⟩).grown hbw hg10 (fun k hk => by simp only [Option.some.injEq] at hk; omega)
        have hcp10 := hcp.grown hg10 (.inl (fun e => by have := (hcp.lt _ e).1; omega))
        have hcd10 := hcd.grown hg10 (.inl (fun e => by have := (hcd.lt _ e).1; omega))
        refine RL.nil ?_
        refine Fin.al hr hJ (by first | exact .inl (by kernel_rfl) | (refine .inr ?_; assumption)) ?_
        refine AL.nil (by kernel_rfl) ?_
        refine Fin.next ?_
        refine CW.ret ?_
        refine Fin.blockRet ?_
        refine Fin.thenRet ?_
        refine Fin.retc rfl ag25 rfl rfl (hV10) ?_
        exact ⟨_, rfl, ps.take kn, ds.take kn, ⟨_, _, rfl, hcp10.sv, hcd10.sv, (fun x hx => by have := hcp10.lt x hx; omega), (fun x hx => by have := hcd10.lt x hx; omega), Nat.le_refl _⟩, by simp; omega, hD10⟩
      · with_reducible first | (replace hc2 := deNF hc2) | (replace hc2 := of_decide_eq_true hc2) | (replace hc2 := of_decide_eq_false hc2) | (replace hc2 := deNT hc2) | (replace hc2 := deNN hc2) | (replace hc2 := bnT hc2) | (replace hc2 := bnF hc2) | skip
        refine CW.seq ?_
        refine CW.region ?_
        refine RL.y rfl (y_eq rfl rfl) ?_
        refine RL.y rfl (y_asg (v := .bool _) rfl) ?_
        refine RL.nil ?_
        refine Fin.next ?_
        refine CW.cond rfl rfl (fun hc3 => ?_) (fun hc3 => ?_)
        · with_reducible first | (replace hc3 := deNF hc3) | (replace hc3 := of_decide_eq_true hc3) | (replace hc3 := of_decide_eq_false hc3) | (replace hc3 := deNT hc3) | (replace hc3 := deNN hc3) | (replace hc3 := bnT hc3) | (replace hc3 := bnF hc3) | skip
          refine CW.seq ?_
          refine CW.quietE mixed (by kernel_rfl) ?_
          refine QL.y rfl (y_fa fa25_0 rfl rfl) ?_
          refine QL.y rfl (y_loadv sc22 (fun _ hC => (hW6).ext hC) rfl rfl) ?_
          refine QL.y rfl (y_fa fa25_1 rfl rfl) ?_
          refine QL.y rfl (y_loadv sc23 (fun _ hC => (hW6).ext hC) rfl rfl) ?_
          refine QL.y rfl (y_asg (by conv => lhs; whnf)) ?_
          refine QL.y rfl (y_asg (by conv => lhs; whnf)) ?_
          refine QL.nil (fun w7 hE7 => ?_)
          have hs7 := hE7.size
          refine Fin.next ?_
          refine CW.seq ?_
          refine CW.block ?_
          refine CW.loop (fun m E w' => ∃ (vp vd : Value) (ps : List Int) (ds : List Bool), m = 30 - ps.length ∧ agrees E [(0, .pointer (some ⟨b, 0, none⟩)), (2, .pointer (some ⟨w.heap.size, 0, none⟩)), (5, vp), (6, vd)] ∧ (OV w' w1.heap.size 2 vp (ints ps) ∧ OV w' w1.heap.size 4 vd (bools ds)) ∧ NB vp vd ∧ (ps.length ≤ 30 ∧ ds.length ≤ 30 + ps.length) ∧ VR w' w.heap.size [.slice none 0 0, .slice none 0 0] ∧ Drawn w1 b w') _ (⟨vp, vd, ps, ds, rfl, ⟨rfl, rfl, rfl, rfl, trivial⟩, ⟨hop6.ext hE7, hod6.ext hE7⟩, hnb, ⟨by omega, by omega⟩, hV6.ext hE7, hD6.ext hE7⟩) ?_
          clear hop6 hod6 hnb hkp hkd hlen hop2 hod2
          · rintro m E w8 ⟨vp, vd, ps, ds, rfl, hag, ⟨hop8, hod8⟩, hnb, ⟨hlp, hld⟩, hV8, hD8⟩
            refine CW.re _ hag rfl ?_
            refine CW.seq ?_
            refine CW.seq ?_
            refine CW.region ?_
            refine RL.y rfl (y_mov (by conv => lhs; whnf)) ?_
            refine RL.y rfl (y_len sT22 hop8.sv (ints_len _) rfl) ?_
            refine RL.y rfl (y_mov (by conv => lhs; whnf)) ?_
            refine RL.call rfl (l01Next_any hD8.1 (by omega)) ?_
            rintro r w9 ⟨y2, rfl, ⟨hy0, hy1, -⟩, hD9⟩
            replace hy1 := hy1 (by omega)
            have hop9 := hop8.drawn hD9 (by omega)
            have hod9 := hod8.drawn hD9 (by omega)
            have hV9 := hV8.drawn hD9 (by omega)
            replace hD9 := hD8.trans hD9
            refine RL.y rfl (y_add rfl rfl (IntWalk.i64_in _ (by omega))) ?_
            refine RL.y rfl (y_lt rfl rfl) ?_
            refine RL.nil ?_
            refine Fin.next ?_
            refine CW.cond rfl rfl (fun hc4 => ?_) (fun hc4 => ?_)
            · with_reducible first | (replace hc4 := deNF hc4) | (replace hc4 := of_decide_eq_true hc4) | (replace hc4 := of_decide_eq_false hc4) | (replace hc4 := deNT hc4) | (replace hc4 := deNN hc4) | (replace hc4 := bnT hc4) | (replace hc4 := bnF hc4) | skip
              refine CW.skip ?_
              refine Fin.next ?_
              refine CW.block ?_
              refine CW.seq ?_
              refine CW.region ?_
              refine RL.y rfl (y_mov (by conv => lhs; whnf)) ?_
              refine RL.app1i rfl rfl sT22 (by omega) hop9 (by omega) hD9.size rfl (fun _ => rfl) (fun u vp10 w10 hop10 hg10 hn10 => ?_)
              have hod10 := ov_other hod9 hg10 hnb.symm
              have hnb10 := nb_both hnb hod9.blk hn10
              have hV10 := hV9.grown hg10 (fun e => by have := (hop9.lt _ e).1; omega)
              have hD10 := hD9.grown hbw1 hg10 (fun k hk => (hop9.lt _ hk).1)
              refine RL.y rfl (y_asg (by conv => lhs; whnf)) ?_
              refine RL.nil ?_
              refine Fin.next ?_
              refine CW.region ?_
              refine RL.y rfl (y_mov (by conv => lhs; whnf)) ?_
              refine RL.app1 rfl rfl sT23 (by omega) hod10 (by rw [bools_len]; omega) hD10.size rfl rfl (fun _ => rfl) (fun u vd11 w11 hod11 hg11 hn11 => ?_)
              have hod11' : OV w11 w1.heap.size 4 vd11 (bools (ds ++ [true])) := by rw [← bools_app]; exact hod11
              have hop11 := ov_other hop10 hg11 hnb10
              refine RL.y rfl (y_asg (by conv => lhs; whnf)) ?_
              refine RL.nil ?_
              refine Fin.blockNormal ?_
              refine Fin.le ?_
              exact ⟨30 - (ps ++ [0]).length, by simp; omega, vp10, vd11, ps ++ [0], ds ++ [true], rfl, ⟨rfl, rfl, rfl, rfl, trivial⟩, ⟨hop11, hod11'⟩, nb_new hnb10 hop10.blk hn11, ⟨by simp; omega, by simp; omega⟩, hV10.grown hg11 (fun e => by have := (hod10.lt _ e).1; omega), hD10.grown hbw1 hg11 (fun k hk => (hod10.lt _ hk).1)⟩
            · with_reducible first | (replace hc4 := deNF hc4) | (replace hc4 := of_decide_eq_true hc4) | (replace hc4 := of_decide_eq_false hc4) | (replace hc4 := deNT hc4) | (replace hc4 := deNN hc4) | (replace hc4 := bnT hc4) | (replace hc4 := bnF hc4) | skip
              rename_i wA; have hop10 := hop9
              refine CW.exit ?_
              refine Fin.thenExit ?_
              refine Fin.thenExit ?_
              refine Fin.blockHit ?_
              refine Fin.next ?_
              refine CW.seq ?_
              refine CW.region ?_
              refine RL.y rfl (y_mov (by conv => lhs; whnf)) ?_
              refine RL.y rfl (y_mov (by conv => lhs; whnf)) ?_
              refine RL.y rfl (y_build bd25 rfl (fill_one (slice_one hop9.sv) rfl rfl (fill_one (slice_one hod9.sv) rfl rfl fill_nil))) ?_
              refine RL.stores ag25 (hV9) rfl rfl rfl rfl ((show ([vp, vd] : List Value).all (·.oneCell') = true by simp [slice_one hop9.sv, slice_one hod9.sv])) (fun w10 hV10 hg10 => ?_)
              replace hV10 : VR w10 w.heap.size [vp, vd] := hV10
              have hs10 := hg10.size
              have hD10 : Drawn w b w10 := (show Drawn w b w9 from ⟨hD9.1, (hE1.mod _ _).trans hD9.2⟩).grown hbw hg10 (fun k hk => by simp only [Option.some.injEq] at hk; omega)
              have hop10 := hop9.grown hg10 (.inl (fun e => by have := (hop9.lt _ e).1; omega))
              have hod10 := hod9.grown hg10 (.inl (fun e => by have := (hod9.lt _ e).1; omega))
              refine RL.nil ?_
              refine Fin.next ?_
              refine CW.ret ?_
              refine Fin.blockRet ?_
              refine Fin.thenRet ?_
              refine Fin.retc rfl ag25 rfl rfl (hV10) ?_
              exact ⟨_, rfl, ps, ds, ⟨vp, vd, rfl, hop10.sv, hod10.sv, (fun x hx => by have := hop10.lt x hx; omega), (fun x hx => by have := hod10.lt x hx; omega), Nat.le_refl _⟩, hlp, hD10⟩
        · with_reducible first | (replace hc3 := deNF hc3) | (replace hc3 := of_decide_eq_true hc3) | (replace hc3 := of_decide_eq_false hc3) | (replace hc3 := deNT hc3) | (replace hc3 := deNN hc3) | (replace hc3 := bnT hc3) | (replace hc3 := bnF hc3) | skip
          refine CW.skip ?_
          refine Fin.blockNormal ?_
          refine Fin.next ?_
          refine CW.seq ?_
          refine CW.region ?_
          refine RL.y rfl (y_loads ag25 rfl (eqw (hW6)) rfl) ?_
          refine RL.stores ag25 (hV6) rfl rfl rfl rfl ((show ([vp, vd] : List Value).all (·.oneCell') = true by simp [slice_one hop6.sv, slice_one hod6.sv])) (fun w10 hV10 hg10 => ?_)
          replace hV10 : VR w10 w.heap.size [vp, vd] := hV10
          have hs10 := hg10.size
          have hD10 : Drawn w b w10 := (show Drawn w b w6 from ⟨hD6.1, (hE1.mod _ _).trans hD6.2⟩).grown hbw hg10 (fun k hk => by simp only [Option.some.injEq] at hk; omega)
          have hop10 := hop6.grown hg10 (.inl (fun e => by have := (hop6.lt _ e).1; omega))
          have hod10 := hod6.grown hg10 (.inl (fun e => by have := (hod6.lt _ e).1; omega))
          refine RL.nil ?_
          refine Fin.next ?_
          refine CW.ret ?_
          refine Fin.retc rfl ag25 rfl rfl (hV10) ?_
          exact ⟨_, rfl, ps, ds, ⟨vp, vd, rfl, hop10.sv, hod10.sv, (fun x hx => by have := hop10.lt x hx; omega), (fun x hx => by have := hod10.lt x hx; omega), Nat.le_refl _⟩, by omega, hD10⟩

end Go.Proofs.YtebegkegkdmbjaaDoor
