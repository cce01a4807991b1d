/-
  Counting keys: one step of the recursive visit.
-/
import Derived.Test.YtaepdknmagaokaaFEach1
namespace Go.Proofs.Ytaepdknmagaokaa
open B Go.RowKit

theorem sum_yes {p : Nat → Prop} [∀ d, Decidable (p d)] {f : Nat → Nat} {d : Nat} (h : p d) : sumTo (fun d => if p d then f d else 0) (d + 1) = sumTo (fun d => if p d then f d else 0) d + f d := by simp only [sumTo]; rw [if_pos h]
theorem sum_no {p : Nat → Prop} [∀ d, Decidable (p d)] {f : Nat → Nat} {d : Nat} (h : ¬ p d) : sumTo (fun d => if p d then f d else 0) (d + 1) = sumTo (fun d => if p d then f d else 0) d := by simp only [sumTo]; rw [if_neg h, Nat.add_zero]
theorem cuts_snoc {q : Mk} {ks : List Int} {d : Int} (h : cuts q ks) (hd : 0 ≤ d ∧ d ≤ q.dp - 1) : cuts q (ks ++ [d]) := fun x hx => by
  rcases List.mem_append.1 hx with h1 | h1
  · exact h x h1
  · have e : x = d := by simpa using h1
    omega
theorem EK.ext {q : Mk} {fv fa fs : Value} {w0 w w' : World} {B kb mb vb ab sb cb : Nat} {ks : List Int} {c : Int} (h : EK q fv fa fs w0 w B kb mb vb ab sb cb ks c) (he : Ext w w') : EK q fv fa fs w0 w' B kb mb vb ab sb cb ks c := by
  obtain ⟨vk, hk, ho, hnb, hmk, hvf, haf, hsf, hct, hE⟩ := h
  exact ⟨vk, hk.ext he, ho.ext he, hnb, hmk.ext he, hvf.ext he, haf.ext he, hsf.ext he, hct.ext he, hE.trans he⟩
theorem EK.put {q : Mk} {fv fa fs : Value} {w0 w w' w'' : World} {B kb mb vb ab sb cb : Nat} {ks ks' : List Int} {c : Int} {vk vk' : Value} (hd : Dis w0 B kb mb vb ab sb cb)
    (hk : VR w kb [vk]) (ho : OV w B 2 vk (ints ks)) (hnb : ∀ x, vk.ownBlock = some x → x ≠ kb ∧ x ≠ mb ∧ x ≠ vb ∧ x ≠ ab ∧ x ≠ sb ∧ x ≠ cb)
    (hmk : VR w mb [.int .i64 q.ch, .int .i64 q.dp, .int .i64 q.st, .int .i64 q.sm, .int .i64 q.le]) (hvf : VR w vb [fv]) (haf : VR w ab [fa]) (hsf : VR w sb [fs]) (hct : VR w cb [.int .i64 c]) (hE : Ext w0 w)
    (hg : w.grownBy w' vk.ownBlock) (ho' : OV w' B 2 vk' (ints ks')) (hn : vk'.ownBlock = none ∨ vk'.ownBlock = vk.ownBlock ∨ ∃ b, vk'.ownBlock = some b ∧ w.heap.size ≤ b)
    (hk' : VR w'' kb [vk']) (hg' : w'.grownBy w'' (some kb)) : EK q fv fa fs w0 w'' B kb mb vb ab sb cb ks' c := by
  obtain ⟨⟨k1, k2, k3, k4, k5⟩, ⟨c1, c2, c3, c4⟩, n1, n2, n3⟩ := hd
  have l0 := hk.lt
  have l1 := hmk.lt
  have l2 := hvf.lt
  have l3 := haf.lt
  have l4 := hsf.lt
  have l5 := hct.lt
  have hnb' : ∀ x, vk'.ownBlock = some x → x ≠ kb ∧ x ≠ mb ∧ x ≠ vb ∧ x ≠ ab ∧ x ≠ sb ∧ x ≠ cb := fun x hx => by
    rcases hn with e | e | ⟨b, e, hb⟩
    · rw [e] at hx; cases hx
    · rw [e] at hx; exact hnb x hx
    · rw [e] at hx; simp only [Option.some.injEq] at hx; omega
  have two : ∀ {b : Nat} {cs : List Value}, VR w b cs → b ≠ kb → vk.ownBlock ≠ some b → VR w'' b cs := fun h1 h2 h3 =>
    (h1.grown hg h3).grown hg' (fun e => h2 (by simp only [Option.some.injEq] at e; exact e.symm))
  refine ⟨vk', hk', ho'.grown hg' (.inl (fun e => (hnb' _ e).1 rfl)), hnb', two hmk (by omega) (fun e => (hnb _ e).2.1 rfl), two hvf (by omega) (fun e => (hnb _ e).2.2.1 rfl), two haf (by omega) (fun e => (hnb _ e).2.2.2.1 rfl),
    two hsf (by omega) (fun e => (hnb _ e).2.2.2.2.1 rfl), two hct (by omega) (fun e => (hnb _ e).2.2.2.2.2 rfl), (hE.grown hg (fun k hk => ?_)).grown hg' (fun k hk => ?_)⟩
  · have := ho.lt k hk; omega
  · simp only [Option.some.injEq] at hk; omega

theorem EK.back {q : Mk} {fv fa fs : Value} {w0 w w'' : World} {B kb mb vb ab sb cb : Nat} {ks : List Int} {d c : Int} {vk : Value} (hd : Dis w0 B kb mb vb ab sb cb)
    (hk : VR w kb [vk]) (ho : OV w B 2 vk (ints (ks ++ [d]))) (hnb : ∀ x, vk.ownBlock = some x → x ≠ kb ∧ x ≠ mb ∧ x ≠ vb ∧ x ≠ ab ∧ x ≠ sb ∧ x ≠ cb)
    (hmk : VR w mb [.int .i64 q.ch, .int .i64 q.dp, .int .i64 q.st, .int .i64 q.sm, .int .i64 q.le]) (hvf : VR w vb [fv]) (haf : VR w ab [fa]) (hsf : VR w sb [fs]) (hct : VR w cb [.int .i64 c]) (hE : Ext w0 w)
    (hk' : VR w'' kb [vcut vk 0 ks.length]) (hg' : w.grownBy w'' (some kb)) : EK q fv fa fs w0 w'' B kb mb vb ab sb cb ks c := by
  have h1 := ho.cutp (k := ks.length) (by rw [ints_len]; simp)
  have h2 : (ints (ks ++ [d])).take ks.length = ints ks := by unfold ints; rw [← List.map_take, List.take_left']; rfl
  rw [h2] at h1
  refine EK.put hd hk ho hnb hmk hvf haf hsf hct hE ((Ext.refl w).grownBy _) h1 ?_ hk' hg'
  cases e : (vcut vk 0 ks.length).ownBlock with
  | none => exact .inl rfl
  | some b => exact .inr (.inl (vcut_block b e).symm)

theorem eachKey1_step {w w0 : World} {q : Mk} {B kb mb vb fb ab sb cb fal n : Nat} {cla : List Value} {fs : Value} (al : Nat → Int → Prop) [∀ i d, Decidable (al i d)] {ks : List Int} {c : Int} (hm : mkOk q) (hd : Dis w0 B kb mb vb ab sb cb) (hl : (ks.length : Int) + ((n : Int) + 1) = q.ch) (hcu : cuts q ks) (hc : 0 ≤ c ∧ c + ((8 ^ (n + 1) : Nat) : Int) ≤ 1000000) (hfs : fs = .func (.func 113) #[] [Value.pointer (some ⟨kb, 0, none⟩), .pointer (some ⟨mb, 0, none⟩), .pointer (some ⟨vb, 0, none⟩), .pointer (some ⟨fb, 0, none⟩), .pointer (some ⟨ab, 0, none⟩), .pointer (some ⟨sb, 0, none⟩)].toArray) (hA : ∀ (w' : World) (i : Nat) (d : Int), Ext w0 w' → (i : Int) < q.ch → 0 ≤ d → d < q.dp → Does Try.prog fal ([Value.int .i64 (i : Int), .int .i64 d] ++ cla).toArray w' (fun r w'' => r = .bool (decide (al i d)) ∧ Ext w' w'')) (ih : ∀ (w' : World) (ks' : List Int) (c' : Int), (ks'.length : Int) + (n : Int) = q.ch → cuts q ks' → 0 ≤ c' ∧ c' + ((8 ^ n : Nat) : Int) ≤ 1000000 → EK q (cntF cb) (.func (.func fal) #[] cla.toArray) fs w0 w' B kb mb vb ab sb cb ks' c' → Does Try.prog 113 ([Value.bool false] ++ [Value.pointer (some ⟨kb, 0, none⟩), .pointer (some ⟨mb, 0, none⟩), .pointer (some ⟨vb, 0, none⟩), .pointer (some ⟨fb, 0, none⟩), .pointer (some ⟨ab, 0, none⟩), .pointer (some ⟨sb, 0, none⟩)]).toArray w' (fun r w'' => r = .bool true ∧ EK q (cntF cb) (.func (.func fal) #[] cla.toArray) fs w0 w'' B kb mb vb ab sb cb ks' (c' + (cf q al n ks' : Nat)))) (hK : EK q (cntF cb) (.func (.func fal) #[] cla.toArray) fs w0 w B kb mb vb ab sb cb ks c) :
    Does Try.prog 113 #[.bool false, .pointer (some ⟨kb, 0, none⟩), .pointer (some ⟨mb, 0, none⟩), .pointer (some ⟨vb, 0, none⟩), .pointer (some ⟨fb, 0, none⟩), .pointer (some ⟨ab, 0, none⟩), .pointer (some ⟨sb, 0, none⟩)] w (fun r w' => r = .bool true ∧ EK q (cntF cb) (.func (.func fal) #[] cla.toArray) fs w0 w' B kb mb vb ab sb cb ks (c + (cf q al (n + 1) ks : Nat))) := by
  obtain ⟨vk, hk, ho, hnb, hmk, hvf, haf, hsf, hct, hE⟩ := id hK
  obtain ⟨m1, m2, m3, m4, m5⟩ := hm
  have hpw : 8 ^ (n + 1) = 8 ^ n * 8 := Nat.pow_succ ..
  have hcf : ∀ e : Nat, e ≤ q.dp.toNat → sumTo (fun d => if al ks.length (d : Int) ∧ nxt q ks (d : Int) then cf q al n (ks ++ [(d : Int)]) else 0) e ≤ e * 8 ^ n := fun e _ => sumTo_le e (fun i _ => by split; exact cf_le (by omega) n _; exact Nat.zero_le _)
  have hcfe : cf q al (n + 1) ks = sumTo (fun d => if al ks.length (d : Int) ∧ nxt q ks (d : Int) then cf q al n (ks ++ [(d : Int)]) else 0) q.dp.toNat := rfl
  refine enter Try.func113 rfl 91 Try.ntmps113 rfl (by kernel_rfl) ?_
  refine CW.seq ?_
  refine CW.region ?_
  refine RL.y rfl (y_asg rfl) ?_
  refine RL.nil ?_
  refine Fin.next ?_
  refine CW.seq ?_
  refine CW.region ?_
  refine RL.y rfl (y_loadv sc29 (eqw (hk)) rfl rfl) ?_
  refine RL.y rfl (y_len sT29 ho.sv (ints_len _) rfl) ?_
  refine RL.y rfl (y_asg (v := .int _ _) rfl) ?_
  refine RL.nil ?_
  refine Fin.next ?_
  refine CW.seq ?_
  refine CW.seq ?_
  refine CW.region ?_
  refine RL.y rfl (y_mov (v := .int _ _) rfl) ?_
  refine RL.y rfl (y_fa fa25_0 rfl rfl) ?_
  refine RL.y rfl (y_loadv sc2 (eqw (hmk)) rfl rfl) ?_
  refine RL.y rfl (y_eq rfl rfl) ?_
  refine RL.nil ?_
  refine Fin.next ?_
  refine CW.condF rfl ((decide_eq_false (by omega))) ?_
  refine CW.skip ?_
  refine Fin.next ?_
  refine CW.seq ?_
  refine CW.region ?_
  refine RL.y rfl (y_asg rfl) ?_
  refine RL.nil ?_
  refine Fin.next ?_
  refine CW.seq ?_
  refine CW.seq ?_
  refine CW.region ?_
  refine RL.y rfl (y_mov (v := .bool _) rfl) ?_
  refine RL.nil ?_
  refine Fin.next ?_
  refine CW.condF rfl (rfl) ?_
  refine CW.skip ?_
  refine Fin.next ?_
  refine CW.seq ?_
  refine CW.seq ?_
  refine CW.region ?_
  refine RL.y rfl (y_mov (v := .int _ _) rfl) ?_
  refine RL.y rfl (y_asg (v := .int _ _) rfl) ?_
  refine RL.nil ?_
  refine Fin.next ?_
  refine CW.block ?_
  refine CW.loop (fun m E w' => ∃ d : Nat, m = q.dp.toNat - d ∧ d ≤ q.dp.toNat ∧ agrees E [(0, .bool false), (1, .pointer (some ⟨kb, 0, none⟩)), (2, .pointer (some ⟨mb, 0, none⟩)), (3, .pointer (some ⟨vb, 0, none⟩)), (4, .pointer (some ⟨fb, 0, none⟩)), (5, .pointer (some ⟨ab, 0, none⟩)), (6, .pointer (some ⟨sb, 0, none⟩)), (9, .int .i64 (ks.length : Int)), (10, .int .i64 0), (11, .int .i64 (d : Int))] ∧ EK q (cntF cb) (.func (.func fal) #[] cla.toArray) fs w0 w' B kb mb vb ab sb cb ks (c + (sumTo (fun d => if al ks.length (d : Int) ∧ nxt q ks (d : Int) then cf q al n (ks ++ [(d : Int)]) else 0) d : Nat))) _ (⟨0, rfl, Nat.zero_le _, ⟨rfl, rfl, rfl, rfl, rfl, rfl, rfl, rfl, rfl, rfl, trivial⟩, by rw [show c + ((sumTo _ 0 : Nat) : Int) = c from Int.add_zero c]; exact hK⟩) ?_
  · rintro m E w2 ⟨d, rfl, hdd, hag, hK2⟩
    refine CW.re _ hag rfl ?_
    obtain ⟨vk2, hk2, ho2, hnb2, hmk2, hvf2, haf2, hsf2, hct2, hE2⟩ := id hK2
    refine CW.seq ?_
    refine CW.seq ?_
    refine CW.region ?_
    refine RL.y rfl (y_mov (v := .int _ _) rfl) ?_
    refine RL.y rfl (y_fa fa25_1 rfl rfl) ?_
    refine RL.y rfl (y_loadv sc2 (eqw (hmk2)) rfl rfl) ?_
    refine RL.y rfl (y_lt rfl rfl) ?_
    refine RL.nil ?_
    refine Fin.next ?_
    refine CW.cond rfl rfl (fun hcd => ?_) (fun hcd => ?_)
    · with_reducible first | (replace hcd := deNF hcd) | (replace hcd := of_decide_eq_true hcd) | (replace hcd := of_decide_eq_false hcd) | (replace hcd := deNT hcd) | (replace hcd := deNN hcd) | (replace hcd := bnT hcd) | (replace hcd := bnF hcd) | skip
      have hlt : d < q.dp.toNat := by omega
      have hsum := hcf d (by omega)
      have hmul : (d + 1) * 8 ^ n ≤ 8 * 8 ^ n := Nat.mul_le_mul_right _ (by omega)
      rw [Nat.succ_mul] at hmul
      have hbound : (0 ≤ c + ((sumTo (fun d => if al ks.length (d : Int) ∧ nxt q ks (d : Int) then cf q al n (ks ++ [(d : Int)]) else 0) d : Nat) : Int)) ∧ c + ((sumTo (fun d => if al ks.length (d : Int) ∧ nxt q ks (d : Int) then cf q al n (ks ++ [(d : Int)]) else 0) d : Nat) : Int) + ((8 ^ n : Nat) : Int) ≤ 1000000 := by omega
      have hno : ¬ (al ks.length (d : Int) ∧ nxt q ks (d : Int)) → sumTo (fun d => if al ks.length (d : Int) ∧ nxt q ks (d : Int) then cf q al n (ks ++ [(d : Int)]) else 0) (d + 1) = sumTo (fun d => if al ks.length (d : Int) ∧ nxt q ks (d : Int) then cf q al n (ks ++ [(d : Int)]) else 0) d := fun h => sum_no h
      refine CW.skip ?_
      refine Fin.next ?_
      refine CW.seq ?_
      refine CW.block ?_
      refine CW.cut (fun E w' => agrees E [(0, .bool false), (1, .pointer (some ⟨kb, 0, none⟩)), (2, .pointer (some ⟨mb, 0, none⟩)), (3, .pointer (some ⟨vb, 0, none⟩)), (4, .pointer (some ⟨fb, 0, none⟩)), (5, .pointer (some ⟨ab, 0, none⟩)), (6, .pointer (some ⟨sb, 0, none⟩)), (9, .int .i64 (ks.length : Int)), (10, .int .i64 0), (11, .int .i64 (d : Int))] ∧ al ks.length (d : Int) ∧ (0 < ks.length → max ((d : Int) - ks.getD (ks.length - 1) 0) (-((d : Int) - ks.getD (ks.length - 1) 0)) ≤ q.st) ∧ Ext w2 w') ?_ ?_
      · refine CW.seq ?_
        refine CW.quietE mixed (by kernel_rfl) ?_
        refine QL.y rfl (y_loadv sc77 (fun _ hC => (haf2).ext hC) rfl rfl) ?_
        refine QL.y rfl (y_fne fn77 rfl) ?_
        refine QL.y rfl (y_mov (v := .bool _) rfl) ?_
        refine QL.take (t := 43) rfl rfl rfl ?_
        refine QL.y rfl (y_loadv sc77 (fun _ hC => (haf2).ext hC) rfl rfl) ?_
        refine QL.take (t := 43) rfl rfl rfl ?_
        refine QL.y rfl (y_mov (v := .int _ _) rfl) ?_
        refine QL.take (t := 43) rfl rfl rfl ?_
        refine QL.y rfl (y_mov (v := .int _ _) rfl) ?_
        refine QL.take (t := 43) rfl rfl rfl ?_
        refine QL.callw rfl rfl (fun _ hC => qc hC (hA _ ks.length (d : Int) (hE2.trans hC) (by omega) (by omega) (by omega))) ?_
        refine QL.take (t := 43) rfl rfl rfl ?_
        refine QL.y rfl (y_not rfl) ?_
        refine QL.y rfl (y_pickT (v := .bool _) rfl rfl) ?_
        refine QL.y rfl (y_mov (v := .bool _) rfl) ?_
        refine QL.split (t := 50) rfl rfl (fun h1 => ?_) (fun h1 => ?_)
        · with_reducible first | (replace h1 := deNF h1) | (replace h1 := of_decide_eq_true h1) | (replace h1 := of_decide_eq_false h1) | (replace h1 := deNT h1) | (replace h1 := deNN h1) | (replace h1 := bnT h1) | (replace h1 := bnF h1) | skip
          refine QL.pass (t := 50) rfl rfl rfl rfl ?_
          refine QL.pass (t := 50) rfl rfl rfl rfl ?_
          refine QL.pass (t := 50) rfl rfl rfl rfl ?_
          refine QL.pass2 (t := 53) rfl rfl rfl rfl ?_
          refine QL.pass2 (t := 53) rfl rfl rfl rfl ?_
          refine QL.pass2 (t := 53) rfl rfl rfl rfl ?_
          refine QL.pass2 (t := 53) rfl rfl rfl rfl ?_
          refine QL.pass2 (t := 53) rfl rfl rfl rfl ?_
          refine QL.pass2 (t := 53) rfl rfl rfl rfl ?_
          refine QL.pass2 (t := 53) rfl rfl rfl rfl ?_
          refine QL.pass2 (t := 53) rfl rfl rfl rfl ?_
          refine QL.pass2 (t := 53) rfl rfl rfl rfl ?_
          refine QL.pass2 (t := 53) rfl rfl rfl rfl ?_
          refine QL.pass2 (t := 53) rfl rfl rfl rfl ?_
          refine QL.pass (t := 50) rfl rfl rfl rfl ?_
          refine QL.y rfl (y_pickT (v := .bool _) rfl rfl) ?_
          refine QL.nil (fun w3 hE3 => ?_)
          refine Fin.next ?_
          refine CW.condT rfl rfl ?_
          refine CW.exit ?_
          refine Fin.thenExit ?_
          refine Fin.blockHit ?_
          refine Fin.next ?_
          refine CW.region ?_
          refine RL.y rfl (y_mov (v := .int _ _) rfl) ?_
          refine RL.y rfl (y_add rfl rfl (IntWalk.i64_in _ (by omega))) ?_
          refine RL.y rfl (y_asg (v := .int _ _) rfl) ?_
          refine RL.nil ?_
          refine Fin.le ?_
          exact ⟨q.dp.toNat - (d + 1), by omega, d + 1, rfl, by omega, ⟨rfl, rfl, rfl, rfl, rfl, rfl, rfl, rfl, rfl, rfl, trivial⟩, by rw [hno (fun h => h1 h.1)]; exact hK2.ext hE3⟩
        · with_reducible first | (replace h1 := deNF h1) | (replace h1 := of_decide_eq_true h1) | (replace h1 := of_decide_eq_false h1) | (replace h1 := deNT h1) | (replace h1 := deNN h1) | (replace h1 := bnT h1) | (replace h1 := bnF h1) | skip
          refine QL.take (t := 50) rfl rfl rfl ?_
          refine QL.y rfl (y_mov (v := .int _ _) rfl) ?_
          refine QL.take (t := 50) rfl rfl rfl ?_
          refine QL.y rfl (y_gt rfl rfl) ?_
          refine QL.take (t := 50) rfl rfl rfl ?_
          refine QL.y rfl (y_mov (v := .bool _) rfl) ?_
          refine QL.split (t := 53) rfl rfl (fun h2 => ?_) (fun h2 => ?_)
          · with_reducible first | (replace h2 := deNF h2) | (replace h2 := of_decide_eq_true h2) | (replace h2 := of_decide_eq_false h2) | (replace h2 := deNT h2) | (replace h2 := deNN h2) | (replace h2 := bnT h2) | (replace h2 := bnF h2) | skip
            have hln : ks.length - 1 < ks.length := by omega
            have g1 := hcu _ (List.getElem_mem hln)
            have g2 : ks.getD (ks.length - 1) 0 = ks[ks.length - 1] := getD_lt hln
            refine QL.take (t := 53) rfl rfl rfl ?_
            refine QL.y rfl (y_mov (v := .int _ _) rfl) ?_
            refine QL.take (t := 53) rfl rfl rfl ?_
            refine QL.y rfl (y_loadv sc29 (fun _ hC => (hk2).ext hC) rfl rfl) ?_
            refine QL.take (t := 53) rfl rfl rfl ?_
            refine QL.y rfl (y_mov (v := .int _ _) rfl) ?_
            refine QL.take (t := 53) rfl rfl rfl ?_
            refine QL.y rfl (y_sub rfl rfl ((show IntKind.i64.wrap ((ks.length : Int) - 1) = ((ks.length - 1 : Nat) : Int) by rw [IntWalk.i64_in _ (by omega)]; omega))) ?_
            refine QL.take (t := 53) rfl rfl rfl ?_
            refine QL.y rfl (y_ixa sT29 (fun _ hC => (ho2.sv).ext hC) (k := ks.length - 1) (ints_lt hln) rfl rfl) ?_
            refine QL.take (t := 53) rfl rfl rfl ?_
            refine QL.y rfl (y_load sc2 (fun _ hC => (ho2.sv).ext hC) (ints_at hln) rfl) ?_
            refine QL.take (t := 53) rfl rfl rfl ?_
            refine QL.y rfl (y_sub rfl rfl (IntWalk.i64_in _ (by omega))) ?_
            refine QL.take (t := 53) rfl rfl rfl ?_
            refine QL.call rfl (fun _ hC => qs hC (absolute_any (by omega))) ?_
            refine QL.take (t := 53) rfl rfl rfl ?_
            refine QL.y rfl (y_fa fa25_2 rfl rfl) ?_
            refine QL.take (t := 53) rfl rfl rfl ?_
            refine QL.y rfl (y_loadv sc2 (fun _ hC => (hmk2).ext hC) rfl rfl) ?_
            refine QL.take (t := 53) rfl rfl rfl ?_
            refine QL.y rfl (y_gt rfl rfl) ?_
            refine QL.take (t := 50) rfl rfl rfl ?_
            refine QL.y rfl (y_pickT (v := .bool _) rfl rfl) ?_
            refine QL.y rfl (y_pickF (v := .bool _) rfl rfl) ?_
            refine QL.nil (fun w3 hE3 => ?_)
            refine Fin.next ?_
            refine CW.cond rfl rfl (fun h3 => ?_) (fun h3 => ?_)
            · with_reducible first | (replace h3 := deNF h3) | (replace h3 := of_decide_eq_true h3) | (replace h3 := of_decide_eq_false h3) | (replace h3 := deNT h3) | (replace h3 := deNN h3) | (replace h3 := bnT h3) | (replace h3 := bnF h3) | skip
              refine CW.exit ?_
              refine Fin.thenExit ?_
              refine Fin.blockHit ?_
              refine Fin.next ?_
              refine CW.region ?_
              refine RL.y rfl (y_mov (v := .int _ _) rfl) ?_
              refine RL.y rfl (y_add rfl rfl (IntWalk.i64_in _ (by omega))) ?_
              refine RL.y rfl (y_asg (v := .int _ _) rfl) ?_
              refine RL.nil ?_
              refine Fin.le ?_
              exact ⟨q.dp.toNat - (d + 1), by omega, d + 1, rfl, by omega, ⟨rfl, rfl, rfl, rfl, rfl, rfl, rfl, rfl, rfl, rfl, trivial⟩, by rw [hno (fun h => by have := h.2.1 (by omega); rw [g2] at this; omega)]; exact hK2.ext hE3⟩
            · with_reducible first | (replace h3 := deNF h3) | (replace h3 := of_decide_eq_true h3) | (replace h3 := of_decide_eq_false h3) | (replace h3 := deNT h3) | (replace h3 := deNN h3) | (replace h3 := bnT h3) | (replace h3 := bnF h3) | skip
              refine CW.skip ?_
              refine Fin.le ?_
              exact ⟨⟨rfl, rfl, rfl, rfl, rfl, rfl, rfl, rfl, rfl, rfl, trivial⟩, h1, (fun _ => by rw [g2]; omega), hE3⟩
          · with_reducible first | (replace h2 := deNF h2) | (replace h2 := of_decide_eq_true h2) | (replace h2 := of_decide_eq_false h2) | (replace h2 := deNT h2) | (replace h2 := deNN h2) | (replace h2 := bnT h2) | (replace h2 := bnF h2) | skip
            refine QL.pass (t := 53) rfl rfl rfl rfl ?_
            refine QL.pass (t := 53) rfl rfl rfl rfl ?_
            refine QL.pass (t := 53) rfl rfl rfl rfl ?_
            refine QL.pass (t := 53) rfl rfl rfl rfl ?_
            refine QL.pass (t := 53) rfl rfl rfl rfl ?_
            refine QL.pass (t := 53) rfl rfl rfl rfl ?_
            refine QL.pass (t := 53) rfl rfl rfl rfl ?_
            refine QL.pass (t := 53) rfl rfl rfl rfl ?_
            refine QL.pass (t := 53) rfl rfl rfl rfl ?_
            refine QL.pass (t := 53) rfl rfl rfl rfl ?_
            refine QL.pass (t := 53) rfl rfl rfl rfl ?_
            refine QL.take (t := 50) rfl rfl rfl ?_
            refine QL.y rfl (y_pickF (v := .bool _) rfl rfl) ?_
            refine QL.y rfl (y_pickF (v := .bool _) rfl rfl) ?_
            refine QL.nil (fun w3 hE3 => ?_)
            refine Fin.next ?_
            refine CW.condF rfl rfl ?_
            refine CW.skip ?_
            refine Fin.le ?_
            exact ⟨⟨rfl, rfl, rfl, rfl, rfl, rfl, rfl, rfl, rfl, rfl, trivial⟩, h1, (fun h => absurd h (by omega)), hE3⟩
      · rintro E w3 ⟨hag, hal, hnr, hE3⟩
        refine CW.re _ hag rfl ?_
        have hK3 := hK2.ext hE3
        obtain ⟨vk3, hk3, ho3, hnb3, hmk3, hvf3, haf3, hsf3, hct3, hE03⟩ := id hK3
        obtain ⟨⟨k1, k2, k3, k4, k5⟩, ⟨c1, c2, c3, c4⟩, n1, n2, n3⟩ := id hd
        have hB3 : B ≤ w3.heap.size := by have := hE03.size; omega
        refine CW.seq ?_
        refine CW.region ?_
        refine RL.y rfl (y_loadv sc29 (eqw (hk3)) rfl rfl) ?_
        refine RL.y rfl (y_mov (v := .int _ _) rfl) ?_
        refine RL.app1i rfl rfl sT29 (by omega) ho3 (by omega) hB3 rfl (fun _ => rfl) (fun u v4 w4 ho4 hg4 hn4 => ?_)
        refine RL.storev so29 (hk3.grown hg4 (fun e => (hnb3 _ e).1 rfl)) (by simp) rfl rfl (slice_one ho4.sv) (fun w5 hk5 hg5 => ?_)
        replace hk5 : VR w5 kb [v4] := hk5
        have hK5 := EK.put hd hk3 ho3 hnb3 hmk3 hvf3 haf3 hsf3 hct3 hE03 hg4 ho4 (.inr hn4) hk5 hg5
        obtain ⟨vk5, hk5', ho5, hnb5, hmk5, hvf5, haf5, hsf5, hct5, hE05⟩ := id (hK5.ext (Ext.drew w5))
        have hD : VR w5.drew mb [.int .i64 q.ch, .int .i64 q.dp, .int .i64 q.st, .int .i64 q.sm, .int .i64 q.le] ∧ VR w5.drew sb [fs] := ⟨hmk5, hsf5⟩
        have hcu5 : cuts q (ks ++ [(d : Int)]) := cuts_snoc hcu (by omega)
        have hlc : (ks ++ [(d : Int)]).length = ks.length + 1 := by simp
        refine RL.nil ?_
        refine Fin.next ?_
        refine CW.seq ?_
        refine CW.tape (fun w' => VR w' mb [.int .i64 q.ch, .int .i64 q.dp, .int .i64 q.st, .int .i64 q.sm, .int .i64 q.le] ∧ VR w' sb [fs]) [15, 14, 13, 5, 1, 0] mixed (by kernel_rfl) (by kernel_rfl) (hD) ?_
        refine TL.yc rfl rfl (y_loadv sc29 (eqw (hk5')) rfl rfl) ?_
        refine TL.op rfl (fun hC => ?_)
        refine RL.call rfl (sameRun_any ho5.sv (by omega)) ?_
        rintro r w6 ⟨rfl, hE6⟩
        have hmk6 := hmk5.ext hE6
        have hsf6 := hsf5.ext hE6
        have hK6 := (hK5.ext (Ext.drew w5)).ext hE6
        refine RL.nil ?_
        refine Fin.tl (⟨hmk6, hsf6⟩) ?_
        refine TL.y rfl rfl (y_fa fa25_3 rfl rfl) ?_
        refine TL.y rfl rfl (y_loadv sc2 (fun _ hC => hC.1) rfl rfl) ?_
        refine TL.y rfl rfl (y_gt rfl rfl) ?_
        refine TL.yc rfl rfl (y_mov (v := .bool _) rfl) ?_
        refine TL.split (t := 76) rfl rfl (fun h4 => ?_) (fun h4 => ?_)
        · with_reducible first | (replace h4 := deNF h4) | (replace h4 := of_decide_eq_true h4) | (replace h4 := of_decide_eq_false h4) | (replace h4 := deNT h4) | (replace h4 := deNN h4) | (replace h4 := bnT h4) | (replace h4 := bnF h4) | skip
          refine TL.pass (t := 76) rfl rfl rfl rfl ?_
          refine TL.pass (t := 76) rfl rfl rfl rfl ?_
          refine TL.pass (t := 76) rfl rfl rfl rfl ?_
          refine TL.pass2 (t := 79) rfl rfl rfl rfl ?_
          refine TL.pass2 (t := 79) rfl rfl rfl rfl ?_
          refine TL.pass2 (t := 79) rfl rfl rfl rfl ?_
          refine TL.pass (t := 76) rfl rfl rfl rfl ?_
          refine TL.pass (t := 76) rfl rfl rfl rfl ?_
          refine TL.yc rfl rfl (y_pickT (v := .bool _) rfl rfl) ?_
          refine TL.yc rfl rfl (y_asg (v := .bool _) rfl) ?_
          refine TL.nil (fun hC => ?_)
          obtain ⟨vk6, hk6, ho6, hnb6, hmk6, hvf6, haf6, hsf6, hct6, hE06⟩ := id hK6
          refine Fin.next ?_
          refine CW.seq ?_
          refine CW.region ?_
          refine RL.y rfl (y_loadv sc29 (eqw (hk6)) rfl rfl) ?_
          refine RL.y rfl (y_mov (v := .int _ _) rfl) ?_
          refine RL.y rfl (y_cutH sT29 (eqw (ho6.sv)) (by rw [ints_len]; omega) rfl rfl ) ?_
          refine RL.storev so29 (hk6) (by simp) rfl rfl (slice_one (ho6.cutp (by rw [ints_len]; omega)).sv) (fun w7 hk7 hg7 => ?_)
          replace hk7 : VR w7 kb [vcut vk6 0 ks.length] := hk7
          refine RL.nil ?_
          refine Fin.next ?_
          refine CW.seq ?_
          refine CW.region ?_
          refine RL.y rfl (y_mov (v := .bool _) rfl) ?_
          refine RL.y rfl (y_not rfl) ?_
          refine RL.nil ?_
          refine Fin.next ?_
          refine CW.condF rfl rfl ?_
          refine CW.skip ?_
          refine Fin.blockNormal ?_
          refine Fin.next ?_
          refine CW.region ?_
          refine RL.y rfl (y_mov (v := .int _ _) rfl) ?_
          refine RL.y rfl (y_add rfl rfl (IntWalk.i64_in _ (by omega))) ?_
          refine RL.y rfl (y_asg (v := .int _ _) rfl) ?_
          refine RL.nil ?_
          refine Fin.le ?_
          exact ⟨q.dp.toNat - (d + 1), by omega, d + 1, rfl, by omega, ⟨rfl, rfl, rfl, rfl, rfl, rfl, rfl, rfl, rfl, rfl, trivial⟩, by rw [hno (fun h => by have := h.2.2; rw [hlc, Nat.add_sub_cancel] at h4; omega)]; exact EK.back hd hk6 ho6 hnb6 hmk6 hvf6 haf6 hsf6 hct6 hE06 hk7 hg7⟩
        · with_reducible first | (replace h4 := deNF h4) | (replace h4 := of_decide_eq_true h4) | (replace h4 := of_decide_eq_false h4) | (replace h4 := deNT h4) | (replace h4 := deNN h4) | (replace h4 := bnT h4) | (replace h4 := bnF h4) | skip
          refine TL.take (t := 76) rfl rfl rfl ?_
          refine TL.y rfl rfl (y_loadv sc117 (fun _ hC => hC.2) rfl rfl) ?_
          refine TL.take (t := 76) rfl rfl rfl ?_
          refine TL.y rfl rfl (y_mov (v := .bool _) rfl) ?_
          refine TL.take (t := 76) rfl rfl rfl ?_
          refine TL.y rfl rfl (y_mov (v := .bool _) rfl) ?_
          refine TL.force (t := 79) false rfl rfl (rfl) ?_
          refine TL.pass (t := 79) rfl rfl rfl rfl ?_
          subst hfs
          refine TL.pass (t := 79) rfl rfl rfl rfl ?_
          refine TL.pass (t := 79) rfl rfl rfl rfl ?_
          refine TL.take (t := 76) rfl rfl rfl ?_
          refine TL.y rfl rfl (y_pickF (v := .bool _) rfl rfl) ?_
          refine TL.take (t := 76) rfl rfl rfl ?_
          refine TL.op rfl (fun hC => ?_)
          refine RL.callw rfl rfl (ih _ _ _ (by omega) hcu5 hbound hK6) ?_
          rintro r w7 ⟨rfl, hK7⟩
          obtain ⟨vk7, hk7, ho7, hnb7, hmk7, hvf7, haf7, hsf7, hct7, hE07⟩ := id hK7
          refine RL.nil ?_
          refine Fin.tl (⟨hmk7, hsf7⟩) ?_
          refine TL.yc rfl rfl (y_pickF (v := .bool _) rfl rfl) ?_
          refine TL.yc rfl rfl (y_asg (v := .bool _) rfl) ?_
          refine TL.nil (fun hC => ?_)
          refine Fin.next ?_
          refine CW.seq ?_
          refine CW.region ?_
          refine RL.y rfl (y_loadv sc29 (eqw (hk7)) rfl rfl) ?_
          refine RL.y rfl (y_mov (v := .int _ _) rfl) ?_
          refine RL.y rfl (y_cutH sT29 (eqw (ho7.sv)) (by rw [ints_len]; omega) rfl rfl ) ?_
          refine RL.storev so29 (hk7) (by simp) rfl rfl (slice_one (ho7.cutp (by rw [ints_len]; omega)).sv) (fun w8 hk8 hg8 => ?_)
          replace hk8 : VR w8 kb [vcut vk7 0 ks.length] := hk8
          have hyes : sumTo (fun d => if al ks.length (d : Int) ∧ nxt q ks (d : Int) then cf q al n (ks ++ [(d : Int)]) else 0) (d + 1) = sumTo (fun d => if al ks.length (d : Int) ∧ nxt q ks (d : Int) then cf q al n (ks ++ [(d : Int)]) else 0) d + cf q al n (ks ++ [(d : Int)]) := sum_yes ⟨hal, hnr, by rw [hlc, Nat.add_sub_cancel] at h4; omega⟩
          refine RL.nil ?_
          refine Fin.next ?_
          refine CW.seq ?_
          refine CW.region ?_
          refine RL.y rfl (y_mov (v := .bool _) rfl) ?_
          refine RL.y rfl (y_not rfl) ?_
          refine RL.nil ?_
          refine Fin.next ?_
          refine CW.condF rfl (rfl) ?_
          refine CW.skip ?_
          refine Fin.blockNormal ?_
          refine Fin.next ?_
          refine CW.region ?_
          refine RL.y rfl (y_mov (v := .int _ _) rfl) ?_
          refine RL.y rfl (y_add rfl rfl (IntWalk.i64_in _ (by omega))) ?_
          refine RL.y rfl (y_asg (v := .int _ _) rfl) ?_
          refine RL.nil ?_
          refine Fin.le ?_
          exact ⟨q.dp.toNat - (d + 1), by omega, d + 1, rfl, by omega, ⟨rfl, rfl, rfl, rfl, rfl, rfl, rfl, rfl, rfl, rfl, trivial⟩, by rw [hyes, Int.natCast_add, ← Int.add_assoc]; exact EK.back hd hk7 ho7 hnb7 hmk7 hvf7 haf7 hsf7 hct7 hE07 hk8 hg8⟩
    · with_reducible first | (replace hcd := deNF hcd) | (replace hcd := of_decide_eq_true hcd) | (replace hcd := of_decide_eq_false hcd) | (replace hcd := deNT hcd) | (replace hcd := deNN hcd) | (replace hcd := bnT hcd) | (replace hcd := bnF hcd) | skip
      obtain rfl : d = q.dp.toNat := by omega
      refine CW.exit ?_
      refine Fin.thenExit ?_
      refine Fin.thenExit ?_
      refine Fin.blockHit ?_
      refine Fin.next ?_
      refine CW.seq ?_
      refine CW.region ?_
      refine RL.y rfl (y_asg rfl) ?_
      refine RL.nil ?_
      refine Fin.next ?_
      refine CW.ret ?_
      refine Fin.ret1 rfl (by conv => lhs; whnf) ?_
      exact ⟨_, rfl, rfl, by rw [hcfe]; exact hK2⟩
end Go.Proofs.Ytaepdknmagaokaa
