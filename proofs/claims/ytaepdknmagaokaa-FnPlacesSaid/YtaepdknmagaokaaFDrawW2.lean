/-
  Drawn arguments of the functions on wear.
-/
import Derived.Test.YtaepdknmagaokaaFDrawW
namespace Go.Proofs.Ytaepdknmagaokaa
open B Go.RowKit

theorem l08DrawNumbers_any {w : World} {b : Nat} (hs : Src w b) :
    Does Try.prog 55 #[.pointer (some ⟨b, 0, none⟩)] w (fun r w' => ∃ a t, r = .tuple #[.int .i64 a, .int .i64 t] ∧ ((-1 ≤ a ∧ a ≤ 20) ∧ (-1 ≤ t ∧ t ≤ 5)) ∧ Drawn w b w') := by
  have hb0 := hs.lt
  have hX0 := Drawn.refl hs
  refine enter Try.func55 rfl 27 Try.ntmps55 rfl (by kernel_rfl) ?_
  refine CW.seq ?_
  refine CW.region ?_
  refine RL.y rfl (y_asg rfl) ?_
  refine RL.y rfl (y_asg rfl) ?_
  refine RL.nil ?_
  refine Fin.next ?_
  refine CW.seq ?_
  refine CW.region ?_
  refine RL.y rfl (y_mov (by conv => lhs; whnf)) ?_
  refine RL.y rfl (y_mov (by conv => lhs; whnf)) ?_
  refine RL.call rfl (l01Next_any hX0.1 (by omega)) ?_
  rintro r w1 ⟨x1, rfl, ⟨p1, q1, -⟩, hD1⟩
  replace q1 := q1 (by omega)
  have hX1 := hX0.trans hD1
  have hs1 := hD1.size
  refine RL.lits [.int .i64 (0), .int .i64 (3), .int .i64 (6), .int .i64 (10), .int .i64 (14), .int .i64 (19), .int .i64 x1] rfl sT29 rfl (by omega) (by simp [Value.oneCell']) rfl (fun vp w2 hp2 hE2 hb2 => ?_)
  have hX2 := hX1.ext hE2
  have hs2 := hE2.size
  refine RL.call rfl (l01Pick_any (xs := [0, 3, 6, 10, 14, 19, x1]) hX2.1 hp2.sv (by simp) (fun x hx => by have := (hp2.lt x hx).1; omega)) ?_
  rintro r w3 ⟨z, rfl, hz, hD3⟩
  have hzz : 0 ≤ z ∧ z ≤ 19 := by simp only [List.mem_cons, List.not_mem_nil, or_false] at hz; omega
  have hX3 := hX2.trans hD3
  have hs3 := hD3.size
  refine RL.y rfl (y_mov (by conv => lhs; whnf)) ?_
  refine RL.call rfl (l01Next_any hX3.1 (by omega)) ?_
  rintro r w4 ⟨x4, rfl, ⟨p4, q4, -⟩, hD4⟩
  replace q4 := q4 (by omega)
  have hX4 := hX3.trans hD4
  have hs4 := hD4.size
  refine RL.y rfl (y_asg (v := .int _ _) rfl) ?_
  refine RL.y rfl (y_asg (v := .int _ _) rfl) ?_
  refine RL.nil ?_
  refine Fin.next ?_
  refine CW.seq ?_
  refine CW.seq ?_
  refine CW.region ?_
  refine RL.y rfl (y_mov (by conv => lhs; whnf)) ?_
  refine RL.call rfl (l01Next_any hX4.1 (by omega)) ?_
  rintro r w5 ⟨x5, rfl, -, hD5⟩
  have hX5 := hX4.trans hD5
  have hs5 := hD5.size
  refine RL.nil ?_
  refine Fin.next ?_
  refine CW.block ?_
  refine CW.seq ?_
  refine CW.region ?_
  refine RL.y rfl (y_eq rfl rfl) ?_
  refine RL.y rfl (y_asg (v := .bool _) rfl) ?_
  refine RL.nil ?_
  refine Fin.next ?_
  refine CW.cond rfl rfl (fun h1 => ?_) (fun h1 => ?_)
  · with_reducible first | (replace h1 := deNF h1) | (replace h1 := of_decide_eq_true h1) | (replace h1 := of_decide_eq_false h1) | (replace h1 := deNT h1) | (replace h1 := deNN h1) | (replace h1 := bnT h1) | (replace h1 := bnF h1) | skip
    refine CW.region ?_
    refine RL.y rfl (y_mov (by conv => lhs; whnf)) ?_
    refine RL.lit2 rfl sT29 rfl rfl rfl rfl (fun vq w6 hq6 hE6 hb6 => ?_)
    have hX6 := hX5.ext hE6
    refine RL.call rfl (l01Pick_any (xs := [-1, 20]) hX6.1 hq6.sv (by simp) (fun x hx => by have := (hq6.lt x hx).1; omega)) ?_
    rintro r w7 ⟨y, rfl, hy, hD7⟩
    have hyy : -1 ≤ y ∧ y ≤ 20 := by simp only [List.mem_cons, List.not_mem_nil, or_false] at hy; omega
    refine RL.y rfl (y_asg (v := .int _ _) rfl) ?_
    refine RL.nil ?_
    refine Fin.blockNormal ?_
    refine Fin.next ?_
    refine CW.seq ?_
    refine CW.region ?_
    refine RL.y rfl (y_mov (v := .int _ _) rfl) ?_
    refine RL.y rfl (y_mov (v := .int _ _) rfl) ?_
    refine RL.y rfl (y_asg (v := .int _ _) rfl) ?_
    refine RL.y rfl (y_asg (v := .int _ _) rfl) ?_
    refine RL.nil ?_
    refine Fin.next ?_
    refine CW.ret ?_
    refine Fin.ret2 rfl (by conv => lhs; whnf) (by conv => lhs; whnf) ?_
    exact ⟨_, rfl, _, _, rfl, ⟨hyy, by omega⟩, hX6.trans hD7⟩
  · with_reducible first | (replace h1 := deNF h1) | (replace h1 := of_decide_eq_true h1) | (replace h1 := of_decide_eq_false h1) | (replace h1 := deNT h1) | (replace h1 := deNN h1) | (replace h1 := bnT h1) | (replace h1 := bnF h1) | skip
    refine CW.seq ?_
    refine CW.region ?_
    refine RL.y rfl (y_eq rfl rfl) ?_
    refine RL.y rfl (y_asg (v := .bool _) rfl) ?_
    refine RL.nil ?_
    refine Fin.next ?_
    refine CW.cond rfl rfl (fun h2 => ?_) (fun h2 => ?_)
    · with_reducible first | (replace h2 := deNF h2) | (replace h2 := of_decide_eq_true h2) | (replace h2 := of_decide_eq_false h2) | (replace h2 := deNT h2) | (replace h2 := deNN h2) | (replace h2 := bnT h2) | (replace h2 := bnF h2) | skip
      refine CW.region ?_
      refine RL.y rfl (y_mov (by conv => lhs; whnf)) ?_
      refine RL.lit2 rfl sT29 rfl rfl rfl rfl (fun vq w6 hq6 hE6 hb6 => ?_)
      have hX6 := hX5.ext hE6
      refine RL.call rfl (l01Pick_any (xs := [-1, 5]) hX6.1 hq6.sv (by simp) (fun x hx => by have := (hq6.lt x hx).1; omega)) ?_
      rintro r w7 ⟨y, rfl, hy, hD7⟩
      have hyy : -1 ≤ y ∧ y ≤ 5 := by simp only [List.mem_cons, List.not_mem_nil, or_false] at hy; omega
      refine RL.y rfl (y_asg (v := .int _ _) rfl) ?_
      refine RL.nil ?_
      refine Fin.blockNormal ?_
      refine Fin.next ?_
      refine CW.seq ?_
      refine CW.region ?_
      refine RL.y rfl (y_mov (v := .int _ _) rfl) ?_
      refine RL.y rfl (y_mov (v := .int _ _) rfl) ?_
      refine RL.y rfl (y_asg (v := .int _ _) rfl) ?_
      refine RL.y rfl (y_asg (v := .int _ _) rfl) ?_
      refine RL.nil ?_
      refine Fin.next ?_
      refine CW.ret ?_
      refine Fin.ret2 rfl (by conv => lhs; whnf) (by conv => lhs; whnf) ?_
      exact ⟨_, rfl, _, _, rfl, ⟨by omega, hyy⟩, hX6.trans hD7⟩
    · with_reducible first | (replace h2 := deNF h2) | (replace h2 := of_decide_eq_true h2) | (replace h2 := of_decide_eq_false h2) | (replace h2 := deNT h2) | (replace h2 := deNN h2) | (replace h2 := bnT h2) | (replace h2 := bnF h2) | skip
      refine CW.skip ?_
      refine Fin.blockNormal ?_
      refine Fin.next ?_
      refine CW.seq ?_
      refine CW.region ?_
      refine RL.y rfl (y_mov (v := .int _ _) rfl) ?_
      refine RL.y rfl (y_mov (v := .int _ _) rfl) ?_
      refine RL.y rfl (y_asg (v := .int _ _) rfl) ?_
      refine RL.y rfl (y_asg (v := .int _ _) rfl) ?_
      refine RL.nil ?_
      refine Fin.next ?_
      refine CW.ret ?_
      refine Fin.ret2 rfl (by conv => lhs; whnf) (by conv => lhs; whnf) ?_
      exact ⟨_, rfl, _, _, rfl, ⟨by omega, by omega⟩, hX5⟩

theorem lck_cuts {q : Mk} {ss : List (List Int)} (h : lck q ss) : ∀ r ∈ ss, cuts q r := fun r hr x hx => by
  have := rises_lt ((lck_ok h).2.2.2.2 r hr) x hx; omega
theorem SI.modi {w w' : World} {v : Value} {xs : List Int} {B U B' U' : Nat} (h : SI w v xs) (hi : InB B U v) (hm : Mod B' U' w w') (hd : U' ≤ B) : SI w' v xs := SV.mod' h hi hm (.inr hd)

theorem DrawOpens_any {w : World} {v : Value} {l : List UInt8} (hv : SV w v (byts l)) :
    Does Try.prog 79 #[v] w (fun r w' => ∃ q v1 ss v2 xs, r = .tuple #[mkA q, v1, v2] ∧ smM q ∧ RuL w' w.heap.size w'.heap.size v1 ss ∧ RuI w' w.heap.size w'.heap.size v2 xs ∧ xs.length ≤ 9 ∧ Ext w w') := by
  refine enter Try.func79 rfl 44 Try.ntmps79 rfl (by kernel_rfl) ?_
  refine CW.seq ?_
  refine CW.region ?_
  refine RL.alloc rfl ze25 (fun w1 hV hE1 => ?_)
  refine RL.alloc rfl ze28 (fun w2 hW hE2 => ?_)
  have hl1 := hV.lt
  have hl2 := hW.lt
  have hE02 := hE1.trans hE2
  refine RL.y rfl (y_asg rfl) ?_
  refine RL.nil ?_
  refine Fin.next ?_
  refine CW.seq ?_
  refine CW.region ?_
  refine RL.y rfl (y_mov (by conv => lhs; whnf)) ?_
  refine RL.call rfl (l01From_any (hv.ext hE02)) ?_
  rintro r w3 ⟨rfl, hS3, hE3⟩
  have hl3 := hS3.lt
  have hs3 := hE3.size
  refine RL.y rfl (y_asg (by conv => lhs; whnf)) ?_
  refine RL.nil ?_
  refine Fin.next ?_
  refine CW.seq ?_
  refine CW.region ?_
  refine RL.y rfl (y_mov (by conv => lhs; whnf)) ?_
  refine RL.call rfl (l04Draw_any hS3) ?_
  rintro r w4 ⟨q, v1, ss, rfl, hsm, hR4, hD4⟩
  obtain ⟨vl, rfl, hRl⟩ := id hR4
  have hs4 := hD4.size
  have hE04 : Ext w w4 := hD4.own (hE02.trans hE3) (by have := hE02.size; omega)
  have hV4 := (((hV.ext hE2).ext hE3).drawn hD4 (by omega))
  have hW4 := ((hW.ext hE3).drawn hD4 (by omega))
  refine RL.y rfl (y_mov (by conv => lhs; whnf)) ?_
  refine RL.y rfl (y_ext0 rfl) ?_
  refine RL.y rfl (y_ext1 rfl) ?_
  refine RL.alloc rfl ze25 (fun w5 hM hEw5 => ?_)
  refine RL.alloc rfl ze28 (fun w6 hL hEw6 => ?_)
  have hlM := hM.lt
  have hlL := hL.lt
  refine RL.stores ag25 ((hM.ext hEw6)) rfl rfl rfl rfl (rfl) (fun w7 hMc hgw7 => ?_)
  replace hMc : VR w7 w4.heap.size (mkL q) := hMc
  have hMgc : Mod w4.heap.size (w4.heap.size + 1) w6 w7 := grown_mod hgw7 (fun k hk => by simp only [Option.some.injEq] at hk; omega)
  have hsw7 := hgw7.size
  refine RL.stores ag28 (hL.mod hMgc (by omega)) rfl rfl rfl rfl (hRl.oneL) (fun w8 hLz hgw8 => ?_)
  replace hLz : VR w8 w5.heap.size [vl] := hLz
  have hMgd : Mod w5.heap.size (w5.heap.size + 1) w7 w8 := grown_mod hgw8 (fun k hk => by simp only [Option.some.injEq] at hk; omega)
  have hsw8 := hgw8.size
  have hMz := hMc.mod hMgd (by omega)
  have hEc : Ext w4 w8 := (((hEw5.trans hEw6).then_mod hMgc (Nat.le_refl _)).then_mod hMgd (by omega))
  have hVz := hV4.ext hEc
  have hWz := hW4.ext hEc
  have hRz := hRl.ext hEc
  have hsz := hEc.size
  have hX8 := (Drawn.refl hD4.1).ext hEc
  have E0z := hE04.trans hEc
  have hEM := hEw5.size
  refine RL.nil ?_
  refine Fin.next ?_
  refine CW.seq ?_
  refine CW.seq ?_
  refine CW.region ?_
  refine RL.y rfl (y_loads ag25 rfl (eqw (hMz)) rfl) ?_
  refine RL.y rfl (y_loads ag28 rfl (eqw (hLz)) rfl) ?_
  refine RL.call rfl (specIsLock_any ⟨vl, rfl, hRz.rd⟩) ?_
  rintro r w9 ⟨rfl, hE9⟩
  replace hMz := hMz.ext hE9
  replace hLz := hLz.ext hE9
  replace hVz := hVz.ext hE9
  replace hWz := hWz.ext hE9
  replace hRz := hRz.ext hE9
  replace E0z := E0z.trans hE9
  have hX9 := hX8.ext hE9
  have hs9 := hE9.size
  refine RL.y rfl (y_mov (v := .bool _) rfl) ?_
  refine RL.split (t := 19) rfl rfl (fun h1 => ?_) (fun h1 => ?_)
  · with_reducible first | (replace h1 := deNF h1) | (replace h1 := of_decide_eq_true h1) | (replace h1 := of_decide_eq_false h1) | (replace h1 := deNT h1) | (replace h1 := deNN h1) | (replace h1 := bnT h1) | (replace h1 := bnF h1) | skip
    refine RL.take (t := 19) rfl rfl rfl ?_
    refine RL.y rfl (y_mov (by conv => lhs; whnf)) ?_
    refine RL.take (t := 19) rfl rfl rfl ?_
    refine RL.call rfl (l01Next_any hX9.1 (by omega)) ?_
    rintro r w10 ⟨x10, rfl, -, hD10⟩
    have hX10 := hX9.trans hD10
    have hs10 := hD10.size
    replace hMz := hMz.drawn hD10 (by omega)
    replace hLz := hLz.drawn hD10 (by omega)
    replace hVz := hVz.drawn hD10 (by omega)
    replace hWz := hWz.drawn hD10 (by omega)
    replace hRz := hRz.mod hD10.2 (.inr (by omega))
    replace E0z := hD10.own E0z (by omega)
    refine RL.take (t := 19) rfl rfl rfl ?_
    refine RL.y rfl (y_eq rfl rfl) ?_
    refine RL.y rfl (y_pickT (v := .bool _) rfl rfl) ?_
    refine RL.nil ?_
    refine Fin.next ?_
    refine CW.cond rfl rfl (fun h2 => ?_) (fun h2 => ?_)
    · with_reducible first | (replace h2 := deNF h2) | (replace h2 := of_decide_eq_true h2) | (replace h2 := of_decide_eq_false h2) | (replace h2 := deNT h2) | (replace h2 := deNN h2) | (replace h2 := bnT h2) | (replace h2 := bnF h2) | skip
      refine CW.seq ?_
      refine CW.region ?_
      refine RL.y rfl (y_loads ag25 rfl (eqw (hMz)) rfl) ?_
      refine RL.y rfl (y_loads ag28 rfl (eqw (hLz)) rfl) ?_
      refine RL.call rfl (l04Openers_any h1.1 (lck_cuts h1) h1.2.1 q.ch.toNat w10 (.agg #[vl]) (.slice none 0 0) [] 5 w10.heap.size ⟨vl, rfl, hRz.rd⟩ (fun x hx => by simp at hx) (SV.nil _) inb_nil (Nat.le_refl _) (by have := h1.1.1; simp; omega) (by omega)) ?_
      rintro r w11 ⟨co, ho11, hE11⟩
      replace hMz := hMz.ext hE11
      replace hLz := hLz.ext hE11
      replace hVz := hVz.ext hE11
      replace hWz := hWz.ext hE11
      replace hRz := hRz.ext hE11
      replace E0z := E0z.trans hE11
      have hX11 := hX10.ext hE11
      have hs11 := hE11.size
      have hol := opn_le (q := q) (ss := ss) (n := q.ch.toNat) (ks := []) (most := 5)
      refine RL.y rfl (y_asg (by conv => lhs; whnf)) ?_
      refine RL.nil ?_
      refine Fin.next ?_
      refine CW.seq ?_
      refine CW.region ?_
      refine RL.y rfl (y_mov (by conv => lhs; whnf)) ?_
      refine RL.y rfl (y_len sT26 ho11.1.sv ho11.2.1 rfl) ?_
      refine RL.y rfl (y_gt rfl rfl) ?_
      refine RL.nil ?_
      refine Fin.next ?_
      refine CW.cond rfl rfl (fun h3 => ?_) (fun h3 => ?_)
      · with_reducible first | (replace h3 := deNF h3) | (replace h3 := of_decide_eq_true h3) | (replace h3 := of_decide_eq_false h3) | (replace h3 := deNT h3) | (replace h3 := deNN h3) | (replace h3 := bnT h3) | (replace h3 := bnF h3) | skip
        have hdz : Ext w11 w11.drew := Ext.drew _
        have hMy := hMz.ext hdz
        have hLy := hLz.ext hdz
        have hVy := hVz.ext hdz
        have hWy := hWz.ext hdz
        have hRy := hRz.ext hdz
        have E0y := E0z.trans hdz
        have hszd := hdz.size
        refine CW.seq ?_
        refine CW.tape (fun w' => VR w' w4.heap.size (mkL q) ∧ VR w' w5.heap.size [vl] ∧ SV w' r co ∧ co.length = (opn q ss q.ch.toNat [] 5).length) [11, 10, 9, 6] mixed (by kernel_rfl) (by kernel_rfl) (⟨hMy, hLy, ho11.1.sv.ext hdz, ho11.2.1⟩) ?_
        refine TL.y rfl rfl (y_loads ag25 rfl (fun _ hC => hC.1) rfl) ?_
        refine TL.y rfl rfl (y_loads ag28 rfl (fun _ hC => hC.2.1) rfl) ?_
        refine TL.y rfl rfl (y_mov (by conv => lhs; whnf)) ?_
        refine TL.y rfl rfl (y_mov (by conv => lhs; whnf)) ?_
        refine TL.y rfl rfl (y_mov (by conv => lhs; whnf)) ?_
        refine TL.y rfl rfl (y_len sT26 ho11.1.sv ho11.2.1 rfl) ?_
        refine TL.op rfl (fun hC => ?_)
        refine RL.call rfl (l01Next_any ((hX11.ext hdz).1) (by omega)) ?_
        rintro r20 w20 ⟨z, rfl, ⟨pz, qz, -⟩, hD20⟩
        replace qz := qz (by omega)
        have hs20 := hD20.size
        have hM2 := hMy.drawn hD20 (by omega)
        have hL2 := hLy.drawn hD20 (by omega)
        have hV2 := hVy.drawn hD20 (by omega)
        have hW2 := hWy.drawn hD20 (by omega)
        have hR2 := hRy.mod hD20.2 (.inr (by omega))
        have E02 := hD20.own E0y (by omega)
        have ho20 := (ho11.ext hdz).drawn hD20 (by omega) (by omega)
        have hzl : z.toNat < (opn q ss q.ch.toNat [] 5).length := by omega
        obtain ⟨gz1, gz2, gz3⟩ := ho20.2.2 _ hzl
        have hk2 := gz1
        have hik : InB w10.heap.size w20.heap.size (co.getD z.toNat undef) := gz3
        have hkl : ((opn q ss q.ch.toNat [] 5).getD z.toNat []).length ≤ 9 := by have := opn_mem (q := q) (ss := ss) q.ch.toNat [] 5 _ (List.getElem_mem hzl); have := h1.1.1; rw [getD_lt hzl]; simp at *; omega
        refine RL.nil ?_
        refine Fin.tl (⟨hM2, hL2, ho20.1.sv, ho20.2.1⟩) ?_
        refine TL.y rfl rfl (y_ixi sT26 (fun _ hC => hC.2.2.1) pz (by rw [ho20.2.1]; omega) rfl rfl) ?_
        refine TL.y rfl rfl (y_load sc29 (fun _ hC => hC.2.2.1) ((List.getElem?_eq_some_iff.2 ⟨by rw [ho20.2.1]; exact hzl, (getD_lt (d := undef) (by rw [ho20.2.1]; exact hzl)).symm⟩)) rfl) ?_
        refine TL.op rfl (fun hC => ?_)
        refine RL.stores ag25 (hV2) rfl rfl rfl rfl (rfl) (fun wa hVa hga => ?_)
        replace hVa : VR wa w.heap.size (mkL q) := hVa
        have hMga : Mod w.heap.size (w.heap.size + 1) w20 wa := grown_mod hga (fun k hk => by simp only [Option.some.injEq] at hk; omega)
        have ho21 := ho20.mod hMga (by omega) (by omega)
        have hka := (ho21.2.2 _ hzl).1
        have hMa := hM2.mod hMga (by omega)
        have hLa := hL2.mod hMga (by omega)
        have hWa := hW2.mod hMga (by omega)
        have hRa := hR2.mod hMga (by omega)
        have E0a := E02.then_mod hMga (Nat.le_refl _)
        have hsa := hga.size
        refine RL.nil ?_
        refine Fin.tl (⟨hMa, hLa, ho21.1.sv, ho21.2.1⟩) ?_
        refine TL.op rfl (fun hC => ?_)
        refine RL.stores ag28 (hWa) rfl rfl rfl rfl (hRa.oneL) (fun wb hWb hgb => ?_)
        replace hWb : VR wb w1.heap.size [vl] := hWb
        have hMgb : Mod w1.heap.size (w1.heap.size + 1) wa wb := grown_mod hgb (fun k hk => by simp only [Option.some.injEq] at hk; omega)
        have ho22 := ho21.mod hMgb (by omega) (by omega)
        have hkb := (ho22.2.2 _ hzl).1
        have hVb := hVa.mod hMgb (by omega)
        have hRb := hRa.mod hMgb (by omega)
        have E0b := E0a.then_mod hMgb (by omega)
        have hsb := hgb.size
        refine RL.nil ?_
        refine Fin.tl (⟨hMa.mod hMgb (by omega), hLa.mod hMgb (by omega), ho22.1.sv, ho22.2.1⟩) ?_
        refine TL.yc rfl rfl (y_asg (by conv => lhs; whnf)) ?_
        refine TL.nil (fun hC => ?_)
        refine Fin.next ?_
        refine CW.ret ?_
        refine Fin.thenRet ?_
        refine Fin.ret_cct rfl ag25 rfl rfl hVb ag28 rfl rfl hWb rfl ?_
        exact ⟨_, rfl, q, _, _, _, _, rfl, hsm, ⟨vl, rfl, RuN.wide hRb (by omega) (by omega) (Nat.le_refl _)⟩, ⟨hkb, hik.up (by omega) (by omega), Nat.le_refl _⟩, hkl, E0b⟩
      · with_reducible first | (replace h3 := deNF h3) | (replace h3 := of_decide_eq_true h3) | (replace h3 := of_decide_eq_false h3) | (replace h3 := deNT h3) | (replace h3 := deNN h3) | (replace h3 := bnT h3) | (replace h3 := bnF h3) | skip
        have hdz : Ext w11 w11.drew := Ext.drew _
        have hMy := hMz.ext hdz
        have hLy := hLz.ext hdz
        have hVy := hVz.ext hdz
        have hWy := hWz.ext hdz
        have hRy := hRz.ext hdz
        have E0y := E0z.trans hdz
        have hszd := hdz.size
        refine CW.skip ?_
        refine Fin.next ?_
        refine CW.seq ?_
        refine CW.tape (fun w' => VR w' w4.heap.size (mkL q) ∧ VR w' w5.heap.size [vl]) [7, 6, 5, 4] mixed (by kernel_rfl) (by kernel_rfl) (⟨hMy, hLy⟩) ?_
        refine TL.y rfl rfl (y_loads ag25 rfl (fun _ hC => hC.1) rfl) ?_
        refine TL.y rfl rfl (y_loads ag28 rfl (fun _ hC => hC.2) rfl) ?_
        refine TL.y rfl rfl (y_mov (by conv => lhs; whnf)) ?_
        refine TL.y rfl rfl (y_loads ag25 rfl (fun _ hC => hC.1) rfl) ?_
        refine TL.op rfl (fun hC => ?_)
        refine RL.call rfl (l02DrawKey_any ((hX11.ext hdz).1) hsm) ?_
        rintro vk w20 ⟨xs, hk2, hik, hxl, hD20⟩
        have hs20 := hD20.size
        have hM2 := hMy.drawn hD20 (by omega)
        have hL2 := hLy.drawn hD20 (by omega)
        have hV2 := hVy.drawn hD20 (by omega)
        have hW2 := hWy.drawn hD20 (by omega)
        have hR2 := hRy.mod hD20.2 (.inr (by omega))
        have E02 := hD20.own E0y (by omega)
        refine RL.nil ?_
        refine Fin.tl (⟨hM2, hL2⟩) ?_
        refine TL.op rfl (fun hC => ?_)
        refine RL.stores ag25 (hV2) rfl rfl rfl rfl (rfl) (fun wa hVa hga => ?_)
        replace hVa : VR wa w.heap.size (mkL q) := hVa
        have hMga : Mod w.heap.size (w.heap.size + 1) w20 wa := grown_mod hga (fun k hk => by simp only [Option.some.injEq] at hk; omega)
        have hka : SI wa vk xs := SI.modi hk2 hik hMga (by omega)
        have hMa := hM2.mod hMga (by omega)
        have hLa := hL2.mod hMga (by omega)
        have hWa := hW2.mod hMga (by omega)
        have hRa := hR2.mod hMga (by omega)
        have E0a := E02.then_mod hMga (Nat.le_refl _)
        have hsa := hga.size
        refine RL.nil ?_
        refine Fin.tl (⟨hMa, hLa⟩) ?_
        refine TL.op rfl (fun hC => ?_)
        refine RL.stores ag28 (hWa) rfl rfl rfl rfl (hRa.oneL) (fun wb hWb hgb => ?_)
        replace hWb : VR wb w1.heap.size [vl] := hWb
        have hMgb : Mod w1.heap.size (w1.heap.size + 1) wa wb := grown_mod hgb (fun k hk => by simp only [Option.some.injEq] at hk; omega)
        have hkb : SI wb vk xs := SI.modi hka hik hMgb (by omega)
        have hVb := hVa.mod hMgb (by omega)
        have hRb := hRa.mod hMgb (by omega)
        have E0b := E0a.then_mod hMgb (by omega)
        have hsb := hgb.size
        refine RL.nil ?_
        refine Fin.tl (⟨hMa.mod hMgb (by omega), hLa.mod hMgb (by omega)⟩) ?_
        refine TL.yc rfl rfl (y_asg (by conv => lhs; whnf)) ?_
        refine TL.nil (fun hC => ?_)
        refine Fin.next ?_
        refine CW.ret ?_
        refine Fin.ret_cct rfl ag25 rfl rfl hVb ag28 rfl rfl hWb rfl ?_
        exact ⟨_, rfl, q, _, _, _, _, rfl, hsm, ⟨vl, rfl, RuN.wide hRb (by omega) (by omega) (Nat.le_refl _)⟩, ⟨hkb, hik.up (by omega) (by omega), Nat.le_refl _⟩, hxl, E0b⟩
    · with_reducible first | (replace h2 := deNF h2) | (replace h2 := of_decide_eq_true h2) | (replace h2 := of_decide_eq_false h2) | (replace h2 := deNT h2) | (replace h2 := deNN h2) | (replace h2 := bnT h2) | (replace h2 := bnF h2) | skip
      have hdz : Ext w10 w10.drew := Ext.drew _
      have hMy := hMz.ext hdz
      have hLy := hLz.ext hdz
      have hVy := hVz.ext hdz
      have hWy := hWz.ext hdz
      have hRy := hRz.ext hdz
      have E0y := E0z.trans hdz
      have hszd := hdz.size
      refine CW.skip ?_
      refine Fin.next ?_
      refine CW.seq ?_
      refine CW.tape (fun w' => VR w' w4.heap.size (mkL q) ∧ VR w' w5.heap.size [vl]) [7, 6, 5, 4] mixed (by kernel_rfl) (by kernel_rfl) (⟨hMy, hLy⟩) ?_
      refine TL.y rfl rfl (y_loads ag25 rfl (fun _ hC => hC.1) rfl) ?_
      refine TL.y rfl rfl (y_loads ag28 rfl (fun _ hC => hC.2) rfl) ?_
      refine TL.y rfl rfl (y_mov (by conv => lhs; whnf)) ?_
      refine TL.y rfl rfl (y_loads ag25 rfl (fun _ hC => hC.1) rfl) ?_
      refine TL.op rfl (fun hC => ?_)
      refine RL.call rfl (l02DrawKey_any ((hX10.ext hdz).1) hsm) ?_
      rintro vk w20 ⟨xs, hk2, hik, hxl, hD20⟩
      have hs20 := hD20.size
      have hM2 := hMy.drawn hD20 (by omega)
      have hL2 := hLy.drawn hD20 (by omega)
      have hV2 := hVy.drawn hD20 (by omega)
      have hW2 := hWy.drawn hD20 (by omega)
      have hR2 := hRy.mod hD20.2 (.inr (by omega))
      have E02 := hD20.own E0y (by omega)
      refine RL.nil ?_
      refine Fin.tl (⟨hM2, hL2⟩) ?_
      refine TL.op rfl (fun hC => ?_)
      refine RL.stores ag25 (hV2) rfl rfl rfl rfl (rfl) (fun wa hVa hga => ?_)
      replace hVa : VR wa w.heap.size (mkL q) := hVa
      have hMga : Mod w.heap.size (w.heap.size + 1) w20 wa := grown_mod hga (fun k hk => by simp only [Option.some.injEq] at hk; omega)
      have hka : SI wa vk xs := SI.modi hk2 hik hMga (by omega)
      have hMa := hM2.mod hMga (by omega)
      have hLa := hL2.mod hMga (by omega)
      have hWa := hW2.mod hMga (by omega)
      have hRa := hR2.mod hMga (by omega)
      have E0a := E02.then_mod hMga (Nat.le_refl _)
      have hsa := hga.size
      refine RL.nil ?_
      refine Fin.tl (⟨hMa, hLa⟩) ?_
      refine TL.op rfl (fun hC => ?_)
      refine RL.stores ag28 (hWa) rfl rfl rfl rfl (hRa.oneL) (fun wb hWb hgb => ?_)
      replace hWb : VR wb w1.heap.size [vl] := hWb
      have hMgb : Mod w1.heap.size (w1.heap.size + 1) wa wb := grown_mod hgb (fun k hk => by simp only [Option.some.injEq] at hk; omega)
      have hkb : SI wb vk xs := SI.modi hka hik hMgb (by omega)
      have hVb := hVa.mod hMgb (by omega)
      have hRb := hRa.mod hMgb (by omega)
      have E0b := E0a.then_mod hMgb (by omega)
      have hsb := hgb.size
      refine RL.nil ?_
      refine Fin.tl (⟨hMa.mod hMgb (by omega), hLa.mod hMgb (by omega)⟩) ?_
      refine TL.yc rfl rfl (y_asg (by conv => lhs; whnf)) ?_
      refine TL.nil (fun hC => ?_)
      refine Fin.next ?_
      refine CW.ret ?_
      refine Fin.ret_cct rfl ag25 rfl rfl hVb ag28 rfl rfl hWb rfl ?_
      exact ⟨_, rfl, q, _, _, _, _, rfl, hsm, ⟨vl, rfl, RuN.wide hRb (by omega) (by omega) (Nat.le_refl _)⟩, ⟨hkb, hik.up (by omega) (by omega), Nat.le_refl _⟩, hxl, E0b⟩
  · with_reducible first | (replace h1 := deNF h1) | (replace h1 := of_decide_eq_true h1) | (replace h1 := of_decide_eq_false h1) | (replace h1 := deNT h1) | (replace h1 := deNN h1) | (replace h1 := bnT h1) | (replace h1 := bnF h1) | skip
    have hdz : Ext w9 w9.drew := Ext.drew _
    have hMy := hMz.ext hdz
    have hLy := hLz.ext hdz
    have hVy := hVz.ext hdz
    have hWy := hWz.ext hdz
    have hRy := hRz.ext hdz
    have E0y := E0z.trans hdz
    have hszd := hdz.size
    refine RL.pass (t := 19) rfl rfl rfl rfl ?_
    refine RL.pass (t := 19) rfl rfl rfl rfl ?_
    refine RL.pass (t := 19) rfl rfl rfl rfl ?_
    refine RL.y rfl (y_pickF (v := .bool _) rfl rfl) ?_
    refine RL.nil ?_
    refine Fin.next ?_
    refine CW.condF rfl rfl ?_
    refine CW.skip ?_
    refine Fin.next ?_
    refine CW.seq ?_
    refine CW.tape (fun w' => VR w' w4.heap.size (mkL q) ∧ VR w' w5.heap.size [vl]) [7, 6, 5, 4] mixed (by kernel_rfl) (by kernel_rfl) (⟨hMy, hLy⟩) ?_
    refine TL.y rfl rfl (y_loads ag25 rfl (fun _ hC => hC.1) rfl) ?_
    refine TL.y rfl rfl (y_loads ag28 rfl (fun _ hC => hC.2) rfl) ?_
    refine TL.y rfl rfl (y_mov (by conv => lhs; whnf)) ?_
    refine TL.y rfl rfl (y_loads ag25 rfl (fun _ hC => hC.1) rfl) ?_
    refine TL.op rfl (fun hC => ?_)
    refine RL.call rfl (l02DrawKey_any ((hX9.ext hdz).1) hsm) ?_
    rintro vk w20 ⟨xs, hk2, hik, hxl, hD20⟩
    have hs20 := hD20.size
    have hM2 := hMy.drawn hD20 (by omega)
    have hL2 := hLy.drawn hD20 (by omega)
    have hV2 := hVy.drawn hD20 (by omega)
    have hW2 := hWy.drawn hD20 (by omega)
    have hR2 := hRy.mod hD20.2 (.inr (by omega))
    have E02 := hD20.own E0y (by omega)
    refine RL.nil ?_
    refine Fin.tl (⟨hM2, hL2⟩) ?_
    refine TL.op rfl (fun hC => ?_)
    refine RL.stores ag25 (hV2) rfl rfl rfl rfl (rfl) (fun wa hVa hga => ?_)
    replace hVa : VR wa w.heap.size (mkL q) := hVa
    have hMga : Mod w.heap.size (w.heap.size + 1) w20 wa := grown_mod hga (fun k hk => by simp only [Option.some.injEq] at hk; omega)
    have hka : SI wa vk xs := SI.modi hk2 hik hMga (by omega)
    have hMa := hM2.mod hMga (by omega)
    have hLa := hL2.mod hMga (by omega)
    have hWa := hW2.mod hMga (by omega)
    have hRa := hR2.mod hMga (by omega)
    have E0a := E02.then_mod hMga (Nat.le_refl _)
    have hsa := hga.size
    refine RL.nil ?_
    refine Fin.tl (⟨hMa, hLa⟩) ?_
    refine TL.op rfl (fun hC => ?_)
    refine RL.stores ag28 (hWa) rfl rfl rfl rfl (hRa.oneL) (fun wb hWb hgb => ?_)
    replace hWb : VR wb w1.heap.size [vl] := hWb
    have hMgb : Mod w1.heap.size (w1.heap.size + 1) wa wb := grown_mod hgb (fun k hk => by simp only [Option.some.injEq] at hk; omega)
    have hkb : SI wb vk xs := SI.modi hka hik hMgb (by omega)
    have hVb := hVa.mod hMgb (by omega)
    have hRb := hRa.mod hMgb (by omega)
    have E0b := E0a.then_mod hMgb (by omega)
    have hsb := hgb.size
    refine RL.nil ?_
    refine Fin.tl (⟨hMa.mod hMgb (by omega), hLa.mod hMgb (by omega)⟩) ?_
    refine TL.yc rfl rfl (y_asg (by conv => lhs; whnf)) ?_
    refine TL.nil (fun hC => ?_)
    refine Fin.next ?_
    refine CW.ret ?_
    refine Fin.ret_cct rfl ag25 rfl rfl hVb ag28 rfl rfl hWb rfl ?_
    exact ⟨_, rfl, q, _, _, _, _, rfl, hsm, ⟨vl, rfl, RuN.wide hRb (by omega) (by omega) (Nat.le_refl _)⟩, ⟨hkb, hik.up (by omega) (by omega), Nat.le_refl _⟩, hxl, E0b⟩

theorem DrawMayOpen_any {w : World} {v : Value} {l : List UInt8} (hv : SV w v (byts l)) :
    Does Try.prog 41 #[v] w (fun r w' => ∃ q v1 ss v2 xs a t, r = .tuple #[mkA q, v1, v2, .int .i64 a, .int .i64 t] ∧ smM q ∧ RuL w' w.heap.size w'.heap.size v1 ss ∧ RuI w' w.heap.size w'.heap.size v2 xs ∧ xs.length ≤ 9 ∧ ((-1 ≤ a ∧ a ≤ 20) ∧ (-1 ≤ t ∧ t ≤ 5)) ∧ Ext w w') := by
  refine enter Try.func41 rfl 31 Try.ntmps41 rfl (by kernel_rfl) ?_
  refine CW.seq ?_
  refine CW.region ?_
  refine RL.alloc rfl ze25 (fun w1 hV hE1 => ?_)
  refine RL.alloc rfl ze28 (fun w2 hW hE2 => ?_)
  have hl1 := hV.lt
  have hl2 := hW.lt
  have hE02 := hE1.trans hE2
  refine RL.y rfl (y_asg rfl) ?_
  refine RL.y rfl (y_asg rfl) ?_
  refine RL.y rfl (y_asg rfl) ?_
  refine RL.nil ?_
  refine Fin.next ?_
  refine CW.seq ?_
  refine CW.region ?_
  refine RL.y rfl (y_mov (by conv => lhs; whnf)) ?_
  refine RL.call rfl (l01From_any (hv.ext hE02)) ?_
  rintro r w3 ⟨rfl, hS3, hE3⟩
  have hl3 := hS3.lt
  have hs3 := hE3.size
  refine RL.y rfl (y_asg (by conv => lhs; whnf)) ?_
  refine RL.nil ?_
  refine Fin.next ?_
  refine CW.seq ?_
  refine CW.region ?_
  refine RL.y rfl (y_mov (by conv => lhs; whnf)) ?_
  refine RL.call rfl (DrawOpens_any (hv.ext (hE02.trans hE3))) ?_
  rintro r w4 ⟨q, v1, ss, v2, xs, rfl, hsm, hR4, ⟨hk4, hik, -⟩, hxl, hE4⟩
  obtain ⟨vl, rfl, hRl⟩ := id hR4
  have hs4 := hE4.size
  have hV4 := ((hV.ext hE2).ext hE3).ext hE4
  have hW4 := (hW.ext hE3).ext hE4
  have hX4 := (Drawn.refl hS3).ext hE4
  refine RL.y rfl (y_mov (by conv => lhs; whnf)) ?_
  refine RL.y rfl (y_ext0 rfl) ?_
  refine RL.y rfl (y_ext1 rfl) ?_
  refine RL.y rfl (y_ext2 rfl) ?_
  refine RL.alloc rfl ze25 (fun w5 hM hEw5 => ?_)
  refine RL.alloc rfl ze28 (fun w6 hL hEw6 => ?_)
  have hlM := hM.lt
  have hlL := hL.lt
  refine RL.stores ag25 ((hM.ext hEw6)) rfl rfl rfl rfl (rfl) (fun w7 hMc hgw7 => ?_)
  replace hMc : VR w7 w4.heap.size (mkL q) := hMc
  have hMgc : Mod w4.heap.size (w4.heap.size + 1) w6 w7 := grown_mod hgw7 (fun k hk => by simp only [Option.some.injEq] at hk; omega)
  have hsw7 := hgw7.size
  refine RL.stores ag28 (hL.mod hMgc (by omega)) rfl rfl rfl rfl (hRl.oneL) (fun w8 hLz hgw8 => ?_)
  replace hLz : VR w8 w5.heap.size [vl] := hLz
  have hMgd : Mod w5.heap.size (w5.heap.size + 1) w7 w8 := grown_mod hgw8 (fun k hk => by simp only [Option.some.injEq] at hk; omega)
  have hsw8 := hgw8.size
  have hMz := hMc.mod hMgd (by omega)
  have hEc : Ext w4 w8 := (((hEw5.trans hEw6).then_mod hMgc (Nat.le_refl _)).then_mod hMgd (by omega))
  have hVz := hV4.ext hEc
  have hWz := hW4.ext hEc
  have hRz := hRl.ext hEc
  have hsz := hEc.size
  have hX8 := (Drawn.refl hX4.1).ext hEc
  refine RL.y rfl (y_asg (by conv => lhs; whnf)) ?_
  refine RL.nil ?_
  refine Fin.next ?_
  refine CW.seq ?_
  refine CW.region ?_
  refine RL.y rfl (y_mov (by conv => lhs; whnf)) ?_
  refine RL.call rfl (l08DrawNumbers_any hX8.1) ?_
  rintro r w9 ⟨a, t, rfl, hat, hD9⟩
  have hs9 := hD9.size
  have hs5 := hEw5.size
  have hs6 := hEw6.size
  replace hMz := hMz.drawn hD9 (by omega)
  replace hLz := hLz.drawn hD9 (by omega)
  replace hVz := hVz.drawn hD9 (by omega)
  replace hWz := hWz.drawn hD9 (by omega)
  replace hRz := hRz.mod hD9.2 (.inr (by omega))
  have E0z := hD9.own (((hE02.trans hE3).trans hE4).trans hEc) (by omega)
  have hk9 : SI w9 v2 xs := SI.modi (hk4.ext hEc) hik hD9.2 (by omega)
  have hdz : Ext w9 w9.drew := Ext.drew _
  have hMy := hMz.ext hdz
  have hLy := hLz.ext hdz
  have hVy := hVz.ext hdz
  have hWy := hWz.ext hdz
  have hRy := hRz.ext hdz
  have E0y := E0z.trans hdz
  have hszd := hdz.size
  refine RL.y rfl (y_mov (by conv => lhs; whnf)) ?_
  refine RL.y rfl (y_ext0 rfl) ?_
  refine RL.y rfl (y_ext1 rfl) ?_
  refine RL.y rfl (y_asg (v := .int _ _) rfl) ?_
  refine RL.y rfl (y_asg (v := .int _ _) rfl) ?_
  refine RL.nil ?_
  refine Fin.next ?_
  refine CW.seq ?_
  refine CW.tape (fun w' => VR w' w4.heap.size (mkL q) ∧ VR w' w5.heap.size [vl]) [9, 8, 7, 6, 5] mixed (by kernel_rfl) (by kernel_rfl) (⟨hMy, hLy⟩) ?_
  refine TL.y rfl rfl (y_loads ag25 rfl (fun _ hC => hC.1) rfl) ?_
  refine TL.y rfl rfl (y_loads ag28 rfl (fun _ hC => hC.2) rfl) ?_
  refine TL.y rfl rfl (y_mov (by conv => lhs; whnf)) ?_
  refine TL.y rfl rfl (y_mov (v := .int _ _) rfl) ?_
  refine TL.y rfl rfl (y_mov (v := .int _ _) rfl) ?_
  refine TL.op rfl (fun hC => ?_)
  refine RL.stores ag25 (hVy) rfl rfl rfl rfl (rfl) (fun wa hVa hga => ?_)
  replace hVa : VR wa w.heap.size (mkL q) := hVa
  have hMga : Mod w.heap.size (w.heap.size + 1) w9.drew wa := grown_mod hga (fun k hk => by simp only [Option.some.injEq] at hk; omega)
  have hka : SI wa v2 xs := SI.modi (hk9.ext hdz) hik hMga (by omega)
  have hMa := hMy.mod hMga (by omega)
  have hLa := hLy.mod hMga (by omega)
  have hWa := hWy.mod hMga (by omega)
  have hRa := hRy.mod hMga (by omega)
  have E0a := E0y.then_mod hMga (Nat.le_refl _)
  have hsa := hga.size
  refine RL.nil ?_
  refine Fin.tl (⟨hMa, hLa⟩) ?_
  refine TL.op rfl (fun hC => ?_)
  refine RL.stores ag28 (hWa) rfl rfl rfl rfl (hRa.oneL) (fun wb hWb hgb => ?_)
  replace hWb : VR wb w1.heap.size [vl] := hWb
  have hMgb : Mod w1.heap.size (w1.heap.size + 1) wa wb := grown_mod hgb (fun k hk => by simp only [Option.some.injEq] at hk; omega)
  have hkb : SI wb v2 xs := SI.modi hka hik hMgb (by omega)
  have hVb := hVa.mod hMgb (by omega)
  have hRb := hRa.mod hMgb (by omega)
  have E0b := E0a.then_mod hMgb (by omega)
  have hsb := hgb.size
  refine RL.nil ?_
  refine Fin.tl (⟨hMa.mod hMgb (by omega), hLa.mod hMgb (by omega)⟩) ?_
  refine TL.yc rfl rfl (y_asg (by conv => lhs; whnf)) ?_
  refine TL.yc rfl rfl (y_asg (v := .int _ _) rfl) ?_
  refine TL.yc rfl rfl (y_asg (v := .int _ _) rfl) ?_
  refine TL.nil (fun hC => ?_)
  refine Fin.next ?_
  refine CW.ret ?_
  refine Fin.ret_ccttt rfl ag25 rfl rfl hVb ag28 rfl rfl hWb rfl rfl rfl ?_
  exact ⟨_, rfl, q, _, _, _, _, _, _, rfl, hsm, ⟨vl, rfl, RuN.wide hRb (by omega) (by omega) (Nat.le_refl _)⟩, ⟨hkb, hik.up (by omega) (by omega), Nat.le_refl _⟩, hxl, hat, E0b⟩

theorem DrawWearLimit_any {w : World} {v : Value} {l : List UInt8} (hv : SV w v (byts l)) :
    Does Try.prog 14 #[v] w (fun r w' => ∃ q v1 ss v2 xs t, r = .tuple #[mkA q, v1, v2, .int .i64 t] ∧ smM q ∧ RuL w' w.heap.size w'.heap.size v1 ss ∧ RuI w' w.heap.size w'.heap.size v2 xs ∧ xs.length ≤ 9 ∧ (-1 ≤ t ∧ t ≤ 5) ∧ Ext w w') := by
  refine enter Try.func14 rfl 23 Try.ntmps14 rfl (by kernel_rfl) ?_
  refine CW.seq ?_
  refine CW.region ?_
  refine RL.alloc rfl ze25 (fun w1 hV hE1 => ?_)
  refine RL.alloc rfl ze28 (fun w2 hW hE2 => ?_)
  have hl1 := hV.lt
  have hl2 := hW.lt
  have hE02 := hE1.trans hE2
  refine RL.y rfl (y_asg rfl) ?_
  refine RL.y rfl (y_asg rfl) ?_
  refine RL.nil ?_
  refine Fin.next ?_
  refine CW.seq ?_
  refine CW.region ?_
  refine RL.y rfl (y_mov (by conv => lhs; whnf)) ?_
  refine RL.call rfl (DrawMayOpen_any (hv.ext hE02)) ?_
  rintro r w4 ⟨q, v1, ss, v2, xs, a, t, rfl, hsm, hR4, ⟨hk4, hik, -⟩, hxl, hat, hE4⟩
  obtain ⟨vl, rfl, hRl⟩ := id hR4
  have hs4 := hE4.size
  have hV4 := (hV.ext hE2).ext hE4
  have hW4 := hW.ext hE4
  refine RL.y rfl (y_mov (by conv => lhs; whnf)) ?_
  refine RL.y rfl (y_ext0 rfl) ?_
  refine RL.y rfl (y_ext1 rfl) ?_
  refine RL.y rfl (y_ext2 rfl) ?_
  refine RL.y rfl (y_ext3 rfl) ?_
  refine RL.y rfl (y_ext4 rfl) ?_
  refine RL.alloc rfl ze25 (fun w5 hM hEw5 => ?_)
  refine RL.alloc rfl ze28 (fun w6 hL hEw6 => ?_)
  have hlM := hM.lt
  have hlL := hL.lt
  refine RL.stores ag25 ((hM.ext hEw6)) rfl rfl rfl rfl (rfl) (fun w7 hMc hgw7 => ?_)
  replace hMc : VR w7 w4.heap.size (mkL q) := hMc
  have hMgc : Mod w4.heap.size (w4.heap.size + 1) w6 w7 := grown_mod hgw7 (fun k hk => by simp only [Option.some.injEq] at hk; omega)
  have hsw7 := hgw7.size
  refine RL.stores ag28 (hL.mod hMgc (by omega)) rfl rfl rfl rfl (hRl.oneL) (fun w8 hLz hgw8 => ?_)
  replace hLz : VR w8 w5.heap.size [vl] := hLz
  have hMgd : Mod w5.heap.size (w5.heap.size + 1) w7 w8 := grown_mod hgw8 (fun k hk => by simp only [Option.some.injEq] at hk; omega)
  have hsw8 := hgw8.size
  have hMz := hMc.mod hMgd (by omega)
  have hEc : Ext w4 w8 := (((hEw5.trans hEw6).then_mod hMgc (Nat.le_refl _)).then_mod hMgd (by omega))
  have hVz := hV4.ext hEc
  have hWz := hW4.ext hEc
  have hRz := hRl.ext hEc
  have hsz := hEc.size
  have hs5 := hEw5.size
  have hs6 := hEw6.size
  have E0z := (hE02.trans hE4).trans hEc
  have hk9 := hk4.ext hEc
  have hdz : Ext w8 w8.drew := Ext.drew _
  have hMy := hMz.ext hdz
  have hLy := hLz.ext hdz
  have hVy := hVz.ext hdz
  have hWy := hWz.ext hdz
  have hRy := hRz.ext hdz
  have E0y := E0z.trans hdz
  have hszd := hdz.size
  refine RL.y rfl (y_asg (by conv => lhs; whnf)) ?_
  refine RL.y rfl (y_asg (v := .int _ _) rfl) ?_
  refine RL.y rfl (y_asg (v := .int _ _) rfl) ?_
  refine RL.nil ?_
  refine Fin.next ?_
  refine CW.seq ?_
  refine CW.tape (fun w' => VR w' w4.heap.size (mkL q) ∧ VR w' w5.heap.size [vl]) [7, 6, 5, 4] mixed (by kernel_rfl) (by kernel_rfl) (⟨hMy, hLy⟩) ?_
  refine TL.y rfl rfl (y_loads ag25 rfl (fun _ hC => hC.1) rfl) ?_
  refine TL.y rfl rfl (y_loads ag28 rfl (fun _ hC => hC.2) rfl) ?_
  refine TL.y rfl rfl (y_mov (by conv => lhs; whnf)) ?_
  refine TL.y rfl rfl (y_mov (v := .int _ _) rfl) ?_
  refine TL.op rfl (fun hC => ?_)
  refine RL.stores ag25 (hVy) rfl rfl rfl rfl (rfl) (fun wa hVa hga => ?_)
  replace hVa : VR wa w.heap.size (mkL q) := hVa
  have hMga : Mod w.heap.size (w.heap.size + 1) w8.drew wa := grown_mod hga (fun k hk => by simp only [Option.some.injEq] at hk; omega)
  have hka : SI wa v2 xs := SI.modi (hk9.ext hdz) hik hMga (by omega)
  have hMa := hMy.mod hMga (by omega)
  have hLa := hLy.mod hMga (by omega)
  have hWa := hWy.mod hMga (by omega)
  have hRa := hRy.mod hMga (by omega)
  have E0a := E0y.then_mod hMga (Nat.le_refl _)
  have hsa := hga.size
  refine RL.nil ?_
  refine Fin.tl (⟨hMa, hLa⟩) ?_
  refine TL.op rfl (fun hC => ?_)
  refine RL.stores ag28 (hWa) rfl rfl rfl rfl (hRa.oneL) (fun wb hWb hgb => ?_)
  replace hWb : VR wb w1.heap.size [vl] := hWb
  have hMgb : Mod w1.heap.size (w1.heap.size + 1) wa wb := grown_mod hgb (fun k hk => by simp only [Option.some.injEq] at hk; omega)
  have hkb : SI wb v2 xs := SI.modi hka hik hMgb (by omega)
  have hVb := hVa.mod hMgb (by omega)
  have hRb := hRa.mod hMgb (by omega)
  have E0b := E0a.then_mod hMgb (by omega)
  have hsb := hgb.size
  refine RL.nil ?_
  refine Fin.tl (⟨hMa.mod hMgb (by omega), hLa.mod hMgb (by omega)⟩) ?_
  refine TL.yc rfl rfl (y_asg (by conv => lhs; whnf)) ?_
  refine TL.yc rfl rfl (y_asg (v := .int _ _) rfl) ?_
  refine TL.nil (fun hC => ?_)
  refine Fin.next ?_
  refine CW.ret ?_
  refine Fin.ret_cctt rfl ag25 rfl rfl hVb ag28 rfl rfl hWb rfl rfl ?_
  exact ⟨_, rfl, q, _, _, _, _, _, rfl, hsm, ⟨vl, rfl, RuN.wide hRb (by omega) (by omega) (Nat.le_refl _)⟩, ⟨hkb, hik.up (by omega) (by omega), Nat.le_refl _⟩, hxl, hat.2, E0b⟩

theorem DrawCountMayOpen_any {w : World} {v : Value} {l : List UInt8} (hv : SV w v (byts l)) :
    Does Try.prog 17 #[v] w (fun r w' => ∃ q v1 ss a t, r = .tuple #[mkA q, v1, .int .i64 a, .int .i64 t] ∧ smM q ∧ RuL w' w.heap.size w'.heap.size v1 ss ∧ ((-1 ≤ a ∧ a ≤ 20) ∧ (-1 ≤ t ∧ t ≤ 5)) ∧ Ext w w') := by
  refine enter Try.func17 rfl 27 Try.ntmps17 rfl (by kernel_rfl) ?_
  refine CW.seq ?_
  refine CW.region ?_
  refine RL.alloc rfl ze25 (fun w1 hV hE1 => ?_)
  refine RL.alloc rfl ze28 (fun w2 hW hE2 => ?_)
  have hl1 := hV.lt
  have hl2 := hW.lt
  have hE02 := hE1.trans hE2
  refine RL.y rfl (y_asg rfl) ?_
  refine RL.y rfl (y_asg rfl) ?_
  refine RL.nil ?_
  refine Fin.next ?_
  refine CW.seq ?_
  refine CW.region ?_
  refine RL.y rfl (y_mov (by conv => lhs; whnf)) ?_
  refine RL.call rfl (l01From_any (hv.ext hE02)) ?_
  rintro r w3 ⟨rfl, hS3, hE3⟩
  have hl3 := hS3.lt
  have hs3 := hE3.size
  refine RL.y rfl (y_asg (by conv => lhs; whnf)) ?_
  refine RL.nil ?_
  refine Fin.next ?_
  refine CW.seq ?_
  refine CW.region ?_
  refine RL.y rfl (y_mov (by conv => lhs; whnf)) ?_
  refine RL.call rfl (l04Draw_any hS3) ?_
  rintro r w4 ⟨q, v1, ss, rfl, hsm, hR4, hD4⟩
  obtain ⟨vl, rfl, hRl⟩ := id hR4
  have hs4 := hD4.size
  have hE04 : Ext w w4 := hD4.own (hE02.trans hE3) (by have := hE02.size; omega)
  have hV4 := (((hV.ext hE2).ext hE3).drawn hD4 (by omega))
  have hW4 := ((hW.ext hE3).drawn hD4 (by omega))
  refine RL.y rfl (y_mov (by conv => lhs; whnf)) ?_
  refine RL.y rfl (y_ext0 rfl) ?_
  refine RL.y rfl (y_ext1 rfl) ?_
  refine RL.alloc rfl ze25 (fun w5 hM hEw5 => ?_)
  refine RL.alloc rfl ze28 (fun w6 hL hEw6 => ?_)
  have hlM := hM.lt
  have hlL := hL.lt
  refine RL.stores ag25 ((hM.ext hEw6)) rfl rfl rfl rfl (rfl) (fun w7 hMc hgw7 => ?_)
  replace hMc : VR w7 w4.heap.size (mkL q) := hMc
  have hMgc : Mod w4.heap.size (w4.heap.size + 1) w6 w7 := grown_mod hgw7 (fun k hk => by simp only [Option.some.injEq] at hk; omega)
  have hsw7 := hgw7.size
  refine RL.stores ag28 (hL.mod hMgc (by omega)) rfl rfl rfl rfl (hRl.oneL) (fun w8 hLz hgw8 => ?_)
  replace hLz : VR w8 w5.heap.size [vl] := hLz
  have hMgd : Mod w5.heap.size (w5.heap.size + 1) w7 w8 := grown_mod hgw8 (fun k hk => by simp only [Option.some.injEq] at hk; omega)
  have hsw8 := hgw8.size
  have hMz := hMc.mod hMgd (by omega)
  have hEc : Ext w4 w8 := (((hEw5.trans hEw6).then_mod hMgc (Nat.le_refl _)).then_mod hMgd (by omega))
  have hVz := hV4.ext hEc
  have hWz := hW4.ext hEc
  have hRz := hRl.ext hEc
  have hsz := hEc.size
  have hX8 := (Drawn.refl hD4.1).ext hEc
  refine RL.nil ?_
  refine Fin.next ?_
  refine CW.seq ?_
  refine CW.region ?_
  refine RL.y rfl (y_mov (by conv => lhs; whnf)) ?_
  refine RL.call rfl (l08DrawNumbers_any hX8.1) ?_
  rintro r w9 ⟨a, t, rfl, hat, hD9⟩
  have hs9 := hD9.size
  have hs5 := hEw5.size
  have hs6 := hEw6.size
  replace hMz := hMz.drawn hD9 (by omega)
  replace hLz := hLz.drawn hD9 (by omega)
  replace hVz := hVz.drawn hD9 (by omega)
  replace hWz := hWz.drawn hD9 (by omega)
  replace hRz := hRz.mod hD9.2 (.inr (by omega))
  have E0z := hD9.own (hE04.trans hEc) (by omega)
  have hdz : Ext w9 w9.drew := Ext.drew _
  have hMy := hMz.ext hdz
  have hLy := hLz.ext hdz
  have hVy := hVz.ext hdz
  have hWy := hWz.ext hdz
  have hRy := hRz.ext hdz
  have E0y := E0z.trans hdz
  have hszd := hdz.size
  refine RL.y rfl (y_mov (by conv => lhs; whnf)) ?_
  refine RL.y rfl (y_ext0 rfl) ?_
  refine RL.y rfl (y_ext1 rfl) ?_
  refine RL.y rfl (y_asg (v := .int _ _) rfl) ?_
  refine RL.y rfl (y_asg (v := .int _ _) rfl) ?_
  refine RL.nil ?_
  refine Fin.next ?_
  refine CW.seq ?_
  refine CW.tape (fun w' => VR w' w4.heap.size (mkL q) ∧ VR w' w5.heap.size [vl]) [7, 6, 5, 4] mixed (by kernel_rfl) (by kernel_rfl) (⟨hMy, hLy⟩) ?_
  refine TL.y rfl rfl (y_loads ag25 rfl (fun _ hC => hC.1) rfl) ?_
  refine TL.y rfl rfl (y_loads ag28 rfl (fun _ hC => hC.2) rfl) ?_
  refine TL.y rfl rfl (y_mov (v := .int _ _) rfl) ?_
  refine TL.y rfl rfl (y_mov (v := .int _ _) rfl) ?_
  refine TL.op rfl (fun hC => ?_)
  refine RL.stores ag25 (hVy) rfl rfl rfl rfl (rfl) (fun wa hVa hga => ?_)
  replace hVa : VR wa w.heap.size (mkL q) := hVa
  have hMga : Mod w.heap.size (w.heap.size + 1) w9.drew wa := grown_mod hga (fun k hk => by simp only [Option.some.injEq] at hk; omega)
  have hMa := hMy.mod hMga (by omega)
  have hLa := hLy.mod hMga (by omega)
  have hWa := hWy.mod hMga (by omega)
  have hRa := hRy.mod hMga (by omega)
  have E0a := E0y.then_mod hMga (Nat.le_refl _)
  have hsa := hga.size
  refine RL.nil ?_
  refine Fin.tl (⟨hMa, hLa⟩) ?_
  refine TL.op rfl (fun hC => ?_)
  refine RL.stores ag28 (hWa) rfl rfl rfl rfl (hRa.oneL) (fun wb hWb hgb => ?_)
  replace hWb : VR wb w1.heap.size [vl] := hWb
  have hMgb : Mod w1.heap.size (w1.heap.size + 1) wa wb := grown_mod hgb (fun k hk => by simp only [Option.some.injEq] at hk; omega)
  have hVb := hVa.mod hMgb (by omega)
  have hRb := hRa.mod hMgb (by omega)
  have E0b := E0a.then_mod hMgb (by omega)
  have hsb := hgb.size
  refine RL.nil ?_
  refine Fin.tl (⟨hMa.mod hMgb (by omega), hLa.mod hMgb (by omega)⟩) ?_
  refine TL.yc rfl rfl (y_asg (v := .int _ _) rfl) ?_
  refine TL.yc rfl rfl (y_asg (v := .int _ _) rfl) ?_
  refine TL.nil (fun hC => ?_)
  refine Fin.next ?_
  refine CW.ret ?_
  refine Fin.ret_cctt rfl ag25 rfl rfl hVb ag28 rfl rfl hWb rfl rfl ?_
  exact ⟨_, rfl, q, _, _, _, _, rfl, hsm, ⟨vl, rfl, RuN.wide hRb (by omega) (by omega) (Nat.le_refl _)⟩, hat, E0b⟩

theorem DrawWornLock_any {w : World} {v : Value} {l : List UInt8} (hv : SV w v (byts l)) :
    Does Try.prog 45 #[v] w (fun r w' => ∃ q v1 ss a t, r = .tuple #[mkA q, v1, .int .i64 a, .int .i64 t] ∧ smM q ∧ RuL w' w.heap.size w'.heap.size v1 ss ∧ ((-1 ≤ a ∧ a ≤ 20) ∧ (-1 ≤ t ∧ t ≤ 5)) ∧ Ext w w') := by
  refine enter Try.func45 rfl 12 Try.ntmps45 rfl (by kernel_rfl) ?_
  refine CW.seq ?_
  refine CW.region ?_
  refine RL.alloc rfl ze25 (fun w1 hV hE1 => ?_)
  refine RL.alloc rfl ze28 (fun w2 hW hE2 => ?_)
  have hl1 := hV.lt
  have hl2 := hW.lt
  have hE02 := hE1.trans hE2
  refine RL.y rfl (y_asg rfl) ?_
  refine RL.y rfl (y_asg rfl) ?_
  refine RL.nil ?_
  refine Fin.next ?_
  refine CW.seq ?_
  refine CW.region ?_
  refine RL.y rfl (y_mov (by conv => lhs; whnf)) ?_
  refine RL.call rfl (DrawCountMayOpen_any (hv.ext hE02)) ?_
  rintro r w4 ⟨q, v1, ss, a, t, rfl, hsm, hR4, hat, hE4⟩
  obtain ⟨vl, rfl, hRl⟩ := id hR4
  have hs4 := hE4.size
  have E02 := hE02.trans hE4
  refine RL.y rfl (y_ext0 rfl) ?_
  refine RL.y rfl (y_ext1 rfl) ?_
  refine RL.y rfl (y_ext2 rfl) ?_
  refine RL.y rfl (y_ext3 rfl) ?_
  refine RL.stores ag25 (((hV.ext hE2).ext hE4)) rfl rfl rfl rfl (rfl) (fun wa hVa hga => ?_)
  replace hVa : VR wa w.heap.size (mkL q) := hVa
  have hMga : Mod w.heap.size (w.heap.size + 1) w4 wa := grown_mod hga (fun k hk => by simp only [Option.some.injEq] at hk; omega)
  have hRa := hRl.mod hMga (by omega)
  have E0a := E02.then_mod hMga (Nat.le_refl _)
  have hsa := hga.size
  refine RL.stores ag28 ((hW.ext hE4).mod hMga (by omega)) rfl rfl rfl rfl (hRa.oneL) (fun wb hWb hgb => ?_)
  replace hWb : VR wb w1.heap.size [vl] := hWb
  have hMgb : Mod w1.heap.size (w1.heap.size + 1) wa wb := grown_mod hgb (fun k hk => by simp only [Option.some.injEq] at hk; omega)
  have hVb := hVa.mod hMgb (by omega)
  have hRb := hRa.mod hMgb (by omega)
  have E0b := E0a.then_mod hMgb (by omega)
  have hsb := hgb.size
  refine RL.y rfl (y_asg (v := .int _ _) rfl) ?_
  refine RL.y rfl (y_asg (v := .int _ _) rfl) ?_
  refine RL.nil ?_
  refine Fin.next ?_
  refine CW.ret ?_
  refine Fin.ret_cctt rfl ag25 rfl rfl hVb ag28 rfl rfl hWb rfl rfl ?_
  exact ⟨_, rfl, q, _, _, _, _, rfl, hsm, ⟨vl, rfl, RuN.wide hRb (by omega) (by omega) (Nat.le_refl _)⟩, hat, E0b⟩

theorem DrawFreePlaces_any {w : World} {v : Value} {l : List UInt8} (hv : SV w v (byts l)) :
    Does Try.prog 43 #[v] w (fun r w' => ∃ q v1 ss a t, r = .tuple #[mkA q, v1, .int .i64 a, .int .i64 t] ∧ smM q ∧ RuL w' w.heap.size w'.heap.size v1 ss ∧ (-1 ≤ t ∧ t ≤ 5) ∧ Ext w w') := by
  refine enter Try.func43 rfl 36 Try.ntmps43 rfl (by kernel_rfl) ?_
  refine CW.seq ?_
  refine CW.region ?_
  refine RL.alloc rfl ze25 (fun w1 hV hE1 => ?_)
  refine RL.alloc rfl ze28 (fun w2 hW hE2 => ?_)
  have hl1 := hV.lt
  have hl2 := hW.lt
  have hE02 := hE1.trans hE2
  refine RL.y rfl (y_asg rfl) ?_
  refine RL.y rfl (y_asg rfl) ?_
  refine RL.nil ?_
  refine Fin.next ?_
  refine CW.seq ?_
  refine CW.region ?_
  refine RL.y rfl (y_mov (by conv => lhs; whnf)) ?_
  refine RL.call rfl (l01From_any (hv.ext hE02)) ?_
  rintro r w3 ⟨rfl, hS3, hE3⟩
  have hl3 := hS3.lt
  have hs3 := hE3.size
  refine RL.y rfl (y_asg (by conv => lhs; whnf)) ?_
  refine RL.nil ?_
  refine Fin.next ?_
  refine CW.seq ?_
  refine CW.region ?_
  refine RL.y rfl (y_mov (by conv => lhs; whnf)) ?_
  refine RL.call rfl (l04Draw_any hS3) ?_
  rintro r w4 ⟨q, v1, ss, rfl, hsm, hR4, hD4⟩
  obtain ⟨vl, rfl, hRl⟩ := id hR4
  have hs4 := hD4.size
  have hE04 : Ext w w4 := hD4.own (hE02.trans hE3) (by have := hE02.size; omega)
  have hV4 := (((hV.ext hE2).ext hE3).drawn hD4 (by omega))
  have hW4 := ((hW.ext hE3).drawn hD4 (by omega))
  refine RL.y rfl (y_mov (by conv => lhs; whnf)) ?_
  refine RL.y rfl (y_ext0 rfl) ?_
  refine RL.y rfl (y_ext1 rfl) ?_
  refine RL.alloc rfl ze25 (fun w5 hM hEw5 => ?_)
  refine RL.alloc rfl ze28 (fun w6 hL hEw6 => ?_)
  have hlM := hM.lt
  have hlL := hL.lt
  refine RL.stores ag25 ((hM.ext hEw6)) rfl rfl rfl rfl (rfl) (fun w7 hMc hgw7 => ?_)
  replace hMc : VR w7 w4.heap.size (mkL q) := hMc
  have hMgc : Mod w4.heap.size (w4.heap.size + 1) w6 w7 := grown_mod hgw7 (fun k hk => by simp only [Option.some.injEq] at hk; omega)
  have hsw7 := hgw7.size
  refine RL.stores ag28 (hL.mod hMgc (by omega)) rfl rfl rfl rfl (hRl.oneL) (fun w8 hLz hgw8 => ?_)
  replace hLz : VR w8 w5.heap.size [vl] := hLz
  have hMgd : Mod w5.heap.size (w5.heap.size + 1) w7 w8 := grown_mod hgw8 (fun k hk => by simp only [Option.some.injEq] at hk; omega)
  have hsw8 := hgw8.size
  have hMz := hMc.mod hMgd (by omega)
  have hEc : Ext w4 w8 := (((hEw5.trans hEw6).then_mod hMgc (Nat.le_refl _)).then_mod hMgd (by omega))
  have hVz := hV4.ext hEc
  have hWz := hW4.ext hEc
  have hRz := hRl.ext hEc
  have hsz := hEc.size
  have hX8 := (Drawn.refl hD4.1).ext hEc
  obtain ⟨n1, n2, n3, n4, n5⟩ := id hsm
  refine RL.nil ?_
  refine Fin.next ?_
  refine CW.seq ?_
  refine CW.region ?_
  refine RL.y rfl (y_mov (by conv => lhs; whnf)) ?_
  refine RL.call rfl (l08DrawNumbers_any hX8.1) ?_
  rintro r w9 ⟨a, t, rfl, hat, hD9⟩
  have hs9 := hD9.size
  have hs5 := hEw5.size
  have hs6 := hEw6.size
  replace hMz := hMz.drawn hD9 (by omega)
  replace hLz := hLz.drawn hD9 (by omega)
  replace hVz := hVz.drawn hD9 (by omega)
  replace hWz := hWz.drawn hD9 (by omega)
  replace hRz := hRz.mod hD9.2 (.inr (by omega))
  have E0z := hD9.own (hE04.trans hEc) (by omega)
  have hX9 := hX8.trans hD9
  have hdz : Ext w9 w9.drew := Ext.drew _
  have hMy := hMz.ext hdz
  have hLy := hLz.ext hdz
  have hVy := hVz.ext hdz
  have hWy := hWz.ext hdz
  have hRy := hRz.ext hdz
  have E0y := E0z.trans hdz
  have hszd := hdz.size
  refine RL.y rfl (y_mov (by conv => lhs; whnf)) ?_
  refine RL.y rfl (y_ext0 rfl) ?_
  refine RL.y rfl (y_ext1 rfl) ?_
  refine RL.y rfl (y_asg (v := .int _ _) rfl) ?_
  refine RL.y rfl (y_asg (v := .int _ _) rfl) ?_
  refine RL.nil ?_
  refine Fin.next ?_
  refine CW.seq ?_
  refine CW.tape (fun w' => VR w' w4.heap.size (mkL q) ∧ VR w' w5.heap.size [vl]) [16, 15, 14, 13, 9, 7] mixed (by kernel_rfl) (by kernel_rfl) (⟨hMy, hLy⟩) ?_
  refine TL.y rfl rfl (y_loads ag25 rfl (fun _ hC => hC.1) rfl) ?_
  refine TL.y rfl rfl (y_loads ag28 rfl (fun _ hC => hC.2) rfl) ?_
  refine TL.y rfl rfl (y_mov (by conv => lhs; whnf)) ?_
  refine TL.y rfl rfl (y_fa fa25_0 rfl rfl) ?_
  refine TL.y rfl rfl (y_loadv sc2 (fun _ hC => hC.1) rfl rfl) ?_
  refine TL.y rfl rfl (y_add rfl rfl (IntWalk.i64_in _ (by omega))) ?_
  refine TL.y rfl rfl (y_max rfl rfl) ?_
  refine TL.op rfl (fun hC => ?_)
  refine RL.call rfl (l01Next_any ((hX9.ext hdz).1) (by omega)) ?_
  rintro r20 w19 ⟨y1, rfl, ⟨py, qy, -⟩, hD19⟩
  replace qy := qy (by omega)
  refine RL.nil ?_
  refine Fin.tl (⟨hMy.drawn hD19 (by omega), hLy.drawn hD19 (by omega)⟩) ?_
  refine TL.y rfl rfl (y_mov (by conv => lhs; whnf)) ?_
  refine TL.op rfl (fun hC => ?_)
  refine RL.call rfl (l01Next_any hD19.1 (by omega)) ?_
  rintro r21 w20 ⟨y2, rfl, ⟨pz, qz, -⟩, hD20'⟩
  replace qz := qz (by omega)
  have hD20 := hD19.trans hD20'
  have hs20 := hD20.size
  have hM2 := hMy.drawn hD20 (by omega)
  have hL2 := hLy.drawn hD20 (by omega)
  have hV2 := hVy.drawn hD20 (by omega)
  have hW2 := hWy.drawn hD20 (by omega)
  have hR2 := hRy.mod hD20.2 (.inr (by omega))
  have E02 := hD20.own E0y (by omega)
  have htd : y2.tdiv 19 = y2 / 19 := Int.tdiv_eq_ediv_of_nonneg pz
  refine RL.nil ?_
  refine Fin.tl (⟨hM2, hL2⟩) ?_
  refine TL.y rfl rfl (y_quo rfl rfl (by omega) (IntWalk.i64_in _ (by omega))) ?_
  refine TL.y rfl rfl (y_sub rfl rfl (IntWalk.i64_in _ (by omega))) ?_
  refine TL.y rfl rfl (y_mov (v := .int _ _) rfl) ?_
  refine TL.op rfl (fun hC => ?_)
  refine RL.stores ag25 (hV2) rfl rfl rfl rfl (rfl) (fun wa hVa hga => ?_)
  replace hVa : VR wa w.heap.size (mkL q) := hVa
  have hMga : Mod w.heap.size (w.heap.size + 1) w20 wa := grown_mod hga (fun k hk => by simp only [Option.some.injEq] at hk; omega)
  have hMa := hM2.mod hMga (by omega)
  have hLa := hL2.mod hMga (by omega)
  have hWa := hW2.mod hMga (by omega)
  have hRa := hR2.mod hMga (by omega)
  have E0a := E02.then_mod hMga (Nat.le_refl _)
  have hsa := hga.size
  refine RL.nil ?_
  refine Fin.tl (⟨hMa, hLa⟩) ?_
  refine TL.op rfl (fun hC => ?_)
  refine RL.stores ag28 (hWa) rfl rfl rfl rfl (hRa.oneL) (fun wb hWb hgb => ?_)
  replace hWb : VR wb w1.heap.size [vl] := hWb
  have hMgb : Mod w1.heap.size (w1.heap.size + 1) wa wb := grown_mod hgb (fun k hk => by simp only [Option.some.injEq] at hk; omega)
  have hVb := hVa.mod hMgb (by omega)
  have hRb := hRa.mod hMgb (by omega)
  have E0b := E0a.then_mod hMgb (by omega)
  have hsb := hgb.size
  refine RL.nil ?_
  refine Fin.tl (⟨hMa.mod hMgb (by omega), hLa.mod hMgb (by omega)⟩) ?_
  refine TL.yc rfl rfl (y_asg (v := .int _ _) rfl) ?_
  refine TL.yc rfl rfl (y_asg (v := .int _ _) rfl) ?_
  refine TL.nil (fun hC => ?_)
  refine Fin.next ?_
  refine CW.ret ?_
  refine Fin.ret_cctt rfl ag25 rfl rfl hVb ag28 rfl rfl hWb rfl rfl ?_
  exact ⟨_, rfl, q, _, _, _, _, rfl, hsm, ⟨vl, rfl, RuN.wide hRb (by omega) (by omega) (Nat.le_refl _)⟩, hat.2, E0b⟩

theorem DrawWornNeighbours_any {w : World} {v : Value} {l : List UInt8} (hv : SV w v (byts l)) :
    Does Try.prog 44 #[v] w (fun r w' => ∃ q v2 xs a t, r = .tuple #[mkA q, v2, .int .i64 a, .int .i64 t] ∧ smM q ∧ RuI w' w.heap.size w'.heap.size v2 xs ∧ xs.length ≤ 9 ∧ ((-1 ≤ a ∧ a ≤ 20) ∧ (-1 ≤ t ∧ t ≤ 5)) ∧ Ext w w') := by
  refine enter Try.func44 rfl 32 Try.ntmps44 rfl (by kernel_rfl) ?_
  refine CW.seq ?_
  refine CW.region ?_
  refine RL.alloc rfl ze25 (fun w1 hV hE1 => ?_)
  have hl1 := hV.lt
  refine RL.y rfl (y_asg rfl) ?_
  refine RL.y rfl (y_asg rfl) ?_
  refine RL.y rfl (y_asg rfl) ?_
  refine RL.nil ?_
  refine Fin.next ?_
  refine CW.seq ?_
  refine CW.region ?_
  refine RL.y rfl (y_mov (by conv => lhs; whnf)) ?_
  refine RL.call rfl (l01From_any (hv.ext hE1)) ?_
  rintro r w3 ⟨rfl, hS3, hE3⟩
  have hl3 := hS3.lt
  refine RL.y rfl (y_asg (by conv => lhs; whnf)) ?_
  refine RL.nil ?_
  refine Fin.next ?_
  refine CW.seq ?_
  refine CW.region ?_
  refine RL.y rfl (y_mov (by conv => lhs; whnf)) ?_
  refine RL.call rfl (l02Valid_any hS3) ?_
  rintro r w4 ⟨q, rfl, hmk, hD4⟩
  have hs4 := hD4.size
  have hsm := smM_of hmk
  refine RL.alloc rfl ze25 (fun w5 hM hE5 => ?_)
  have hl5 := hM.lt
  refine RL.stores ag25 (hM) rfl rfl rfl rfl (rfl) (fun w6 hM6 hg6 => ?_)
  replace hM6 : VR w6 w4.heap.size (mkL q) := hM6
  have hE46 : Ext w4 w6 := hE5.grown hg6 (fun k hk => by simp only [Option.some.injEq] at hk; omega)
  have hs6 := hE46.size
  have hX6 := hD4.ext hE46
  have hV6 := ((hV.ext hE3).drawn hD4 (by omega)).ext hE46
  refine RL.nil ?_
  refine Fin.next ?_
  refine CW.seq ?_
  refine CW.seq ?_
  refine CW.region ?_
  refine RL.y rfl (y_mov (by conv => lhs; whnf)) ?_
  refine RL.call rfl (l01Next_any hX6.1 (by omega)) ?_
  rintro r w7 ⟨x7, rfl, -, hD7⟩
  have hX7 := hX6.trans hD7
  have hs7 := hD7.size
  have hM7 := hM6.drawn hD7 (by omega)
  have hV7 := hV6.drawn hD7 (by omega)
  refine RL.y rfl (y_eq rfl rfl) ?_
  refine RL.nil ?_
  refine Fin.next ?_
  refine CW.cond rfl rfl (fun h1 => ?_) (fun h1 => ?_)
  · with_reducible first | (replace h1 := deNF h1) | (replace h1 := of_decide_eq_true h1) | (replace h1 := of_decide_eq_false h1) | (replace h1 := deNT h1) | (replace h1 := deNN h1) | (replace h1 := bnT h1) | (replace h1 := bnF h1) | skip
    refine CW.region ?_
    refine RL.y rfl (y_mov (by conv => lhs; whnf)) ?_
    refine RL.call rfl (l02Draw_any hX7.1) ?_
    rintro r w8 ⟨q', rfl, hsm', hD8⟩
    have hs8 := hD8.size
    have hX8' := hX7.trans hD8
    refine RL.stores ag25 (hM7.drawn hD8 (by omega)) rfl rfl rfl rfl (rfl) (fun w81 hM8 hg8 => ?_)
    replace hM8 : VR w81 w4.heap.size (mkL q') := hM8
    have hX8 := hX8'.grown hl3 hg8 (fun k hk => by simp only [Option.some.injEq] at hk; omega)
    have hV8 := (hV7.drawn hD8 (by omega)).grown hg8 (fun e => by simp only [Option.some.injEq] at e; omega)
    have hs81 := hg8.size
    refine RL.nil ?_
    refine Fin.next ?_
    refine CW.seq ?_
    refine CW.region ?_
    refine RL.y rfl (y_mov (by conv => lhs; whnf)) ?_
    refine RL.y rfl (y_loads ag25 rfl (eqw (hM8)) rfl) ?_
    refine RL.call rfl (l02DrawKey_any hX8.1 hsm') ?_
    rintro vk w9 ⟨xs, hk9, hik, hxl, hD9⟩
    have hs9 := hD9.size
    refine RL.y rfl (y_asg (by conv => lhs; whnf)) ?_
    refine RL.nil ?_
    refine Fin.next ?_
    refine CW.seq ?_
    refine CW.region ?_
    refine RL.y rfl (y_mov (by conv => lhs; whnf)) ?_
    refine RL.call rfl (l08DrawNumbers_any (hX8.trans hD9).1) ?_
    rintro r w10 ⟨a, t, rfl, hat, hD10⟩
    have hD := hD9.trans hD10
    have hs10 := hD10.size
    have hk10 : SI w10 vk xs := SI.modi hk9 hik hD10.2 (by omega)
    refine RL.y rfl (y_mov (by conv => lhs; whnf)) ?_
    refine RL.y rfl (y_ext0 rfl) ?_
    refine RL.y rfl (y_ext1 rfl) ?_
    refine RL.y rfl (y_asg (v := .int _ _) rfl) ?_
    refine RL.y rfl (y_asg (v := .int _ _) rfl) ?_
    refine RL.nil ?_
    refine Fin.next ?_
    refine CW.seq ?_
    refine CW.region ?_
    refine RL.y rfl (y_loads ag25 rfl (eqw (hM8.drawn hD (by omega))) rfl) ?_
    refine RL.y rfl (y_mov (by conv => lhs; whnf)) ?_
    refine RL.y rfl (y_mov (v := .int _ _) rfl) ?_
    refine RL.y rfl (y_mov (v := .int _ _) rfl) ?_
    refine RL.stores ag25 (hV8.drawn hD (by omega)) rfl rfl rfl rfl (rfl) (fun wa hVa hga => ?_)
    have hMga : Mod w.heap.size (w.heap.size + 1) w10 wa := grown_mod hga (fun k hk => by simp only [Option.some.injEq] at hk; omega)
    have hka : SI wa vk xs := SI.modi hk10 hik hMga (by omega)
    have hsa := hga.size
    refine RL.y rfl (y_asg (by conv => lhs; whnf)) ?_
    refine RL.y rfl (y_asg (v := .int _ _) rfl) ?_
    refine RL.y rfl (y_asg (v := .int _ _) rfl) ?_
    refine RL.nil ?_
    refine Fin.next ?_
    refine CW.ret ?_
    refine Fin.ret_cttt rfl ag25 rfl rfl hVa rfl rfl rfl ?_
    exact ⟨_, rfl, _, _, _, _, _, rfl, hsm', ⟨hka, hik.up (by omega) (by omega), Nat.le_refl _⟩, hxl, hat, ((hX8.trans hD).own (hE1.trans hE3) (by omega)).then_mod hMga (Nat.le_refl _)⟩
  · with_reducible first | (replace h1 := deNF h1) | (replace h1 := of_decide_eq_true h1) | (replace h1 := of_decide_eq_false h1) | (replace h1 := deNT h1) | (replace h1 := deNN h1) | (replace h1 := bnT h1) | (replace h1 := bnF h1) | skip
    refine CW.skip ?_
    refine Fin.next ?_
    refine CW.seq ?_
    refine CW.region ?_
    refine RL.y rfl (y_mov (by conv => lhs; whnf)) ?_
    refine RL.y rfl (y_loads ag25 rfl (eqw (hM7)) rfl) ?_
    refine RL.call rfl (l02DrawKey_any hX7.1 hsm) ?_
    rintro vk w9 ⟨xs, hk9, hik, hxl, hD9⟩
    have hs9 := hD9.size
    refine RL.y rfl (y_asg (by conv => lhs; whnf)) ?_
    refine RL.nil ?_
    refine Fin.next ?_
    refine CW.seq ?_
    refine CW.region ?_
    refine RL.y rfl (y_mov (by conv => lhs; whnf)) ?_
    refine RL.call rfl (l08DrawNumbers_any (hX7.trans hD9).1) ?_
    rintro r w10 ⟨a, t, rfl, hat, hD10⟩
    have hD := hD9.trans hD10
    have hs10 := hD10.size
    have hk10 : SI w10 vk xs := SI.modi hk9 hik hD10.2 (by omega)
    refine RL.y rfl (y_mov (by conv => lhs; whnf)) ?_
    refine RL.y rfl (y_ext0 rfl) ?_
    refine RL.y rfl (y_ext1 rfl) ?_
    refine RL.y rfl (y_asg (v := .int _ _) rfl) ?_
    refine RL.y rfl (y_asg (v := .int _ _) rfl) ?_
    refine RL.nil ?_
    refine Fin.next ?_
    refine CW.seq ?_
    refine CW.region ?_
    refine RL.y rfl (y_loads ag25 rfl (eqw (hM7.drawn hD (by omega))) rfl) ?_
    refine RL.y rfl (y_mov (by conv => lhs; whnf)) ?_
    refine RL.y rfl (y_mov (v := .int _ _) rfl) ?_
    refine RL.y rfl (y_mov (v := .int _ _) rfl) ?_
    refine RL.stores ag25 (hV7.drawn hD (by omega)) rfl rfl rfl rfl (rfl) (fun wa hVa hga => ?_)
    have hMga : Mod w.heap.size (w.heap.size + 1) w10 wa := grown_mod hga (fun k hk => by simp only [Option.some.injEq] at hk; omega)
    have hka : SI wa vk xs := SI.modi hk10 hik hMga (by omega)
    have hsa := hga.size
    refine RL.y rfl (y_asg (by conv => lhs; whnf)) ?_
    refine RL.y rfl (y_asg (v := .int _ _) rfl) ?_
    refine RL.y rfl (y_asg (v := .int _ _) rfl) ?_
    refine RL.nil ?_
    refine Fin.next ?_
    refine CW.ret ?_
    refine Fin.ret_cttt rfl ag25 rfl rfl hVa rfl rfl rfl ?_
    exact ⟨_, rfl, _, _, _, _, _, rfl, hsm, ⟨hka, hik.up (by omega) (by omega), Nat.le_refl _⟩, hxl, hat, ((hX7.trans hD).own (hE1.trans hE3) (by omega)).then_mod hMga (Nat.le_refl _)⟩
end Go.Proofs.Ytaepdknmagaokaa
