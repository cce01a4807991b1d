/-
  Counting keys: all of the visit, and who counts.
-/
import Derived.Test.YtaepdknmagaokaaFEach2
namespace Go.Proofs.Ytaepdknmagaokaa
open B Go.RowKit

theorem eachKey1_any {w0 : World} {q : Mk} {B kb mb vb fb ab sb cb fal : Nat} {cla : List Value} {fs : Value} (al : Nat → Int → Prop) [∀ i d, Decidable (al i d)] (hm : mkOk q) (hd : Dis w0 B kb mb vb ab sb cb)
   (hfs : fs = .func (.func 113) #[] [Value.pointer (some ⟨kb, 0, none⟩), .pointer (some ⟨mb, 0, none⟩), .pointer (some ⟨vb, 0, none⟩), .pointer (some ⟨fb, 0, none⟩), .pointer (some ⟨ab, 0, none⟩), .pointer (some ⟨sb, 0, none⟩)].toArray)
   (hA : ∀ (w' : World) (i : Nat) (d : Int), Ext w0 w' → (i : Int) < q.ch → 0 ≤ d → d < q.dp → Does Try.prog fal ([Value.int .i64 (i : Int), .int .i64 d] ++ cla).toArray w' (fun r w'' => r = .bool (decide (al i d)) ∧ Ext w' w'')) :
   ∀ (n : Nat) (w : World) (ks : List Int) (c : Int), (ks.length : Int) + (n : Int) = q.ch → cuts q ks → 0 ≤ c ∧ c + ((8 ^ n : Nat) : Int) ≤ 1000000 → EK q (cntF cb) (.func (.func fal) #[] cla.toArray) fs w0 w B kb mb vb ab sb cb ks c →
      Does Try.prog 113 ([Value.bool false] ++ [Value.pointer (some ⟨kb, 0, none⟩), .pointer (some ⟨mb, 0, none⟩), .pointer (some ⟨vb, 0, none⟩), .pointer (some ⟨fb, 0, none⟩), .pointer (some ⟨ab, 0, none⟩), .pointer (some ⟨sb, 0, none⟩)]).toArray w (fun r w'' => r = .bool true ∧ EK q (cntF cb) (.func (.func fal) #[] cla.toArray) fs w0 w'' B kb mb vb ab sb cb ks (c + (cf q al n ks : Nat)))
  | 0, w, ks, c, hl, hcu, hc, hK => (eachKey1_base hm hd (by omega) (by omega) hK).mono (fun v w' h => ⟨h.1, by
      have h2 := h.2
      unfold cf
      split at h2
      · rename_i hh; rw [if_pos hh]; exact h2
      · rename_i hh; rw [if_neg hh]; exact h2⟩)
  | n + 1, w, ks, c, hl, hcu, hc, hK => eachKey1_step al hm hd (by omega) hcu hc hfs hA (fun w' ks' c' => eachKey1_any al hm hd hfs hA n w' ks' c') hK

theorem pow8 {q : Mk} (hm : mkOk q) : 8 ^ q.ch.toNat ≤ 262144 := by
  obtain ⟨m1, _⟩ := hm
  exact Nat.le_trans (Nat.pow_le_pow_right (by omega) (show q.ch.toNat ≤ 6 by omega)) (by decide)

theorem eachKey_any {w w0 : World} {q : Mk} {cb fal : Nat} {cla : List Value} (al : Nat → Int → Prop) [∀ i d, Decidable (al i d)] {c : Int} (hm : mkOk q) (hE : Ext w0 w) (hcb : w0.heap.size ≤ cb) (hct : VR w cb [.int .i64 c]) (hc : 0 ≤ c ∧ c ≤ 700000) (hA : ∀ (w' : World) (i : Nat) (d : Int), Ext w0 w' → (i : Int) < q.ch → 0 ≤ d → d < q.dp → Does Try.prog fal ([Value.int .i64 (i : Int), .int .i64 d] ++ cla).toArray w' (fun r w'' => r = .bool (decide (al i d)) ∧ Ext w' w'')) :
    Does Try.prog 93 #[mkA q, .slice none 0 0, .func (.func fal) #[] cla.toArray, cntF cb] w (fun _ w' => VR w' cb [.int .i64 (c + (cf q al q.ch.toNat [] : Nat))] ∧ Ext w0 w') := by
  have hp8 := pow8 hm
  have m1 := hm.1
  have hls := hE.size
  have hlc := hct.lt
  refine enter Try.func93 rfl 16 Try.ntmps93 rfl (by kernel_rfl) ?_
  refine CW.seq ?_
  refine CW.region ?_
  refine RL.box (cs := [.int .i64 q.ch, .int .i64 q.dp, .int .i64 q.st, .int .i64 q.sm, .int .i64 q.le]) rfl rfl rfl (fun w1 hV hE1 => ?_)
  refine RL.box (cs := [.slice none 0 0]) rfl rfl rfl (fun w2 hW hE2 => ?_)
  refine RL.box (cs := [.func (.func fal) #[] cla.toArray]) rfl rfl rfl (fun w3 hX hE3 => ?_)
  refine RL.box (cs := [cntF cb]) rfl rfl rfl (fun w4 hY hE4 => ?_)
  have hl1 := hV.lt
  have hl2 := hW.lt
  have hl3 := hX.lt
  have hl4 := hY.lt
  have hE24 := (hE2.trans hE3).trans hE4
  have hE04 := hE1.trans hE24
  refine RL.nil ?_
  refine Fin.next ?_
  refine CW.seq ?_
  refine CW.region ?_
  refine RL.lit0 rfl sT29 (fun vo w5 ho5 hE5 hb5 => ?_)
  refine RL.alloc rfl ze29 (fun w6 hZ hE6 => ?_)
  have hs5 := hE5.size
  have hl6 := hZ.lt
  refine RL.storev so29 (hZ) (by simp) rfl rfl (slice_one ho5.sv) (fun w7 hZ7 hg7 => ?_)
  replace hZ7 : VR w7 w5.heap.size [vo] := hZ7
  have hs7 := hg7.size
  have hM7 : Mod w5.heap.size (w5.heap.size + 1) w6 w7 := grown_mod hg7 (fun k hk => by simp only [Option.some.injEq] at hk; omega)
  refine RL.nil ?_
  refine Fin.next ?_
  refine CW.seq ?_
  refine CW.region ?_
  refine RL.alloc rfl ze117 (fun w8 hU hE8 => ?_)
  have hl8 := hU.lt
  refine RL.nil ?_
  refine Fin.next ?_
  refine CW.seq ?_
  refine CW.region ?_
  refine RL.y rfl (y_fnl rfl) ?_
  refine RL.storev so117 (hU) (by simp) rfl rfl (rfl) (fun w9 hU9 hg9 => ?_)
  replace hU9 : VR w9 w7.heap.size [.func (.func 113) #[] [Value.pointer (some ⟨w5.heap.size, 0, none⟩), .pointer (some ⟨w.heap.size, 0, none⟩), .pointer (some ⟨w3.heap.size, 0, none⟩), .pointer (some ⟨w1.heap.size, 0, none⟩), .pointer (some ⟨w2.heap.size, 0, none⟩), .pointer (some ⟨w7.heap.size, 0, none⟩)].toArray] := hU9
  have hM9 : Mod w7.heap.size (w7.heap.size + 1) w8 w9 := grown_mod hg9 (fun k hk => by simp only [Option.some.injEq] at hk; omega)
  have hE56 := hE5.trans hE6
  have keep : ∀ {b : Nat} {cs : List Value}, VR w4 b cs → VR w9 b cs := fun h => by have := h.lt; exact ((((h.ext hE56).mod hM7 (by omega)).ext hE8).mod hM9 (by omega))
  have hE49 : Ext w4 w9 := ((hE56.then_mod hM7 (by omega)).trans hE8).then_mod hM9 (by omega)
  have hb5' := fun x hx => (ho5.lt x hx)
  have ho9 : OV w9 w0.heap.size 2 vo (ints []) := ((((ho5.ext hE6).grown hg7 (.inl (fun e => by have := (ho5.lt _ e).2; omega))).ext hE8).grown hg9 (.inl (fun e => by have := (ho5.lt _ e).2; omega))).mono (by omega)
  have hd : Dis w0 w0.heap.size w5.heap.size w.heap.size w3.heap.size w2.heap.size w7.heap.size cb := ⟨by omega, by omega, rfl, by omega, hcb⟩
  have hZ9 := (hZ7.ext hE8).mod hM9 (by omega)
  have hK9 : EK q (cntF cb) (.func (.func fal) #[] cla.toArray) _ w0 w9 w0.heap.size w5.heap.size w.heap.size w3.heap.size w2.heap.size w7.heap.size cb [] c := ⟨vo, hZ9, ho9, fun x hx => by have := hb5' x hx; omega, keep (hV.ext hE24), keep hY, keep ((hX.ext hE4)), hU9, keep (hct.ext hE04), (hE.trans hE04).trans hE49⟩
  refine RL.nil ?_
  refine Fin.next ?_
  refine CW.region ?_
  refine RL.y rfl (y_loadv sc117 (eqw (hU9)) rfl rfl) ?_
  refine RL.y rfl (y_loadv sc29 (eqw (keep ((hW.ext hE3).ext hE4))) rfl rfl) ?_
  refine RL.y rfl (y_snn (fun w => by kernel_rfl) rfl) ?_
  refine RL.callw rfl rfl (eachKey1_any al hm hd rfl hA q.ch.toNat w9 [] c (by simp; omega) (fun x hx => by simp at hx) (by omega) hK9) ?_
  rintro r w10 ⟨rfl, hK10⟩
  obtain ⟨vk, hk, ho, hnb, hmk, hvf, haf, hsf, hct10, hE10⟩ := hK10
  refine RL.nil ?_
  refine Fin.end0 rfl ?_
  exact ⟨_, rfl, hct10, hE10⟩

theorem countKeys_any {w : World} {q : Mk} {fal : Nat} {cla : List Value} (al : Nat → Int → Prop) [∀ i d, Decidable (al i d)] (hm : mkOk q) (hA : ∀ (w' : World) (i : Nat) (d : Int), Ext w w' → (i : Int) < q.ch → 0 ≤ d → d < q.dp → Does Try.prog fal ([Value.int .i64 (i : Int), .int .i64 d] ++ cla).toArray w' (fun r w'' => r = .bool (decide (al i d)) ∧ Ext w' w'')) :
    Does Try.prog 56 #[mkA q, .func (.func fal) #[] cla.toArray] w (fun r w' => r = .int .i64 ((cf q al q.ch.toNat [] : Nat) : Int) ∧ Ext w w') := by
  refine enter Try.func56 rfl 11 Try.ntmps56 rfl (by kernel_rfl) ?_
  refine CW.seq ?_
  refine CW.region ?_
  refine RL.box (cs := [.int .i64 q.ch, .int .i64 q.dp, .int .i64 q.st, .int .i64 q.sm, .int .i64 q.le]) rfl rfl rfl (fun w1 hV hE1 => ?_)
  refine RL.y rfl (y_asg rfl) ?_
  refine RL.nil ?_
  refine Fin.next ?_
  refine CW.seq ?_
  refine CW.region ?_
  refine RL.alloc rfl ze2 (fun w2 hW hE2 => ?_)
  have hs1 := hE1.size
  have hl2 := hW.lt
  refine RL.storev so2 (hW) (by simp) rfl rfl (rfl) (fun w3 hW3 hg3 => ?_)
  replace hW3 : VR w3 w1.heap.size [.int .i64 0] := hW3
  have hM3 : Mod w1.heap.size (w1.heap.size + 1) w2 w3 := grown_mod hg3 (fun k hk => by simp only [Option.some.injEq] at hk; omega)
  have hl1 := hV.lt
  have hE03 : Ext w w3 := (hE1.trans hE2).then_mod hM3 hs1
  refine RL.nil ?_
  refine Fin.next ?_
  refine CW.seq ?_
  refine CW.region ?_
  refine RL.y rfl (y_loads ag25 rfl (eqw ((hV.ext hE2).mod hM3 (by omega))) rfl) ?_
  refine RL.y rfl (y_mov (by conv => lhs; whnf)) ?_
  refine RL.y rfl (y_fnl rfl) ?_
  refine RL.call rfl (eachKey_any al hm hE03 hs1 hW3 (by omega) hA) ?_
  rintro r w4 ⟨hW4, hE4⟩
  refine RL.nil ?_
  refine Fin.next ?_
  refine CW.seq ?_
  refine CW.region ?_
  refine RL.y rfl (y_loadv sc2 (eqw (hW4)) rfl rfl) ?_
  refine RL.y rfl (y_asg (v := .int _ _) rfl) ?_
  refine RL.nil ?_
  refine Fin.next ?_
  refine CW.ret ?_
  refine Fin.ret1 rfl (by conv => lhs; whnf) ?_
  exact ⟨_, rfl, by rw [Int.zero_add], hE4⟩

theorem frees_any {w : World} {v vl : Value} (hv : v = .agg #[vl]) :
    Does Try.prog 57 #[v] w (fun r w' => ∃ b : Nat, r = .func (.func 95) #[] [Value.pointer (some ⟨b, 0, none⟩)].toArray ∧ VR w' b [vl] ∧ Ext w w') := by
  subst hv
  refine enter Try.func57 rfl 4 Try.ntmps57 rfl (by kernel_rfl) ?_
  refine CW.seq ?_
  refine CW.region ?_
  refine RL.box (cs := [vl]) rfl rfl rfl (fun w1 hV hE1 => ?_)
  refine RL.y rfl (y_asg rfl) ?_
  refine RL.nil ?_
  refine Fin.next ?_
  refine CW.seq ?_
  refine CW.region ?_
  refine RL.y rfl (y_fnl rfl) ?_
  refine RL.y rfl (y_asg (by conv => lhs; whnf)) ?_
  refine RL.nil ?_
  refine Fin.next ?_
  refine CW.ret ?_
  refine Fin.ret1 rfl (by conv => lhs; whnf) ?_
  exact ⟨_, rfl, _, rfl, hV, hE1⟩

theorem frees1_any {w : World} {b i : Nat} {vl : Value} {vs : List Value} {ss : List (List Int)} {x : Int} (hV : VR w b [vl]) (hr : RdC ints w vl vs ss) (hi : i < ss.length) :
    Does Try.prog 95 #[.int .i64 (i : Int), .int .i64 x, .pointer (some ⟨b, 0, none⟩)] w (fun r w' => r = .bool (decide (x ∈ ss.getD i [])) ∧ Ext w w') := by
  have hg : ss.getD i [] = ss[i] := getD_lt hi
  refine enter Try.func95 rfl 13 Try.ntmps95 rfl (by kernel_rfl) ?_
  refine CW.seq ?_
  refine CW.region ?_
  refine RL.y rfl (y_asg rfl) ?_
  refine RL.nil ?_
  refine Fin.next ?_
  refine CW.seq ?_
  refine CW.region ?_
  refine RL.y rfl (y_fa fa28_0 rfl rfl) ?_
  refine RL.y rfl (y_loadv sc26 (eqw (hV)) rfl rfl) ?_
  refine RL.y rfl (y_mov (v := .int _ _) rfl) ?_
  refine RL.y rfl (y_ixa sT26 (eqw (hr.1)) (k := i) (hr.lt hi) rfl rfl) ?_
  refine RL.y rfl (y_load sc29 (eqw (hr.1)) (hr.at hi) rfl) ?_
  refine RL.y rfl (y_mov (v := .int _ _) rfl) ?_
  refine RL.call rfl (ContainsI_any (hr.row hi)) ?_
  rintro r w2 ⟨rfl, rfl⟩
  refine RL.y rfl (y_asg (v := .bool _) rfl) ?_
  refine RL.nil ?_
  refine Fin.next ?_
  refine CW.ret ?_
  refine Fin.ret1 rfl (by conv => lhs; whnf) ?_
  exact ⟨_, rfl, by rw [hg], Ext.refl w⟩

/-- How many keys a lock's sets leave. -/
def opN (q : Mk) (ss : List (List Int)) : Nat := cf q (fun i d => d ∈ ss.getD i []) q.ch.toNat []
def coC (q : Mk) (ss : List (List Int)) : Int := if lck q ss then 0 else 1
def coV (q : Mk) (ss : List (List Int)) : Int := if coC q ss = 0 then (opN q ss : Int) else 0
def cmV (q : Mk) (ss : List (List Int)) (a t : Int) : Int := if loC q ss a t = 0 then (opN q (wnV q ss a t) : Int) else 0
/-- How many keys' cuts lie where a worn key's cuts may lie. -/
def nbN (q : Mk) (cs : List Int) (a t : Int) : Nat := cf q (fun i d => 0 < cnt [d] (cs.getD i 0) (a + 1).toNat t) q.ch.toNat []
def nbV (q : Mk) (cs : List Int) (a t : Int) : Int := if nbC q cs a t = 0 then (nbN q cs a t : Int) else 0
theorem coC_lc {q : Mk} {ss : List (List Int)} : lcC q [ss] = coC q ss := by
  have h1 := lcC_one (q := q) (ss := ss)
  have h2 := lcC_two q [ss]
  unfold coC; split
  · rename_i h; exact h1.2 h
  · rename_i h; rcases h2 with h2 | h2
    · exact absurd (h1.1 h2) h
    · exact h2
theorem coC_zero {q : Mk} {ss : List (List Int)} : coC q ss = 0 ↔ lck q ss := by
  unfold coC; split
  · rename_i h; exact ⟨fun _ => h, fun _ => rfl⟩
  · rename_i h; exact ⟨fun e => by omega, fun e => absurd e h⟩

theorem implCountOpeners_any {w : World} {q : Mk} {v : Value} {ss : List (List Int)} (hv : RdL w v ss) :
    Does Try.prog 20 #[mkA q, v] w (fun r w' => r = .tuple #[.int .i64 (coV q ss), .int .i64 (coC q ss)] ∧ Ext w w') := by
  obtain ⟨vl, rfl, vs, hr⟩ := hv
  refine enter Try.func20 rfl 18 Try.ntmps20 rfl (by kernel_rfl) ?_
  refine CW.seq ?_
  refine CW.region ?_
  refine RL.box (cs := [.int .i64 q.ch, .int .i64 q.dp, .int .i64 q.st, .int .i64 q.sm, .int .i64 q.le]) rfl rfl rfl (fun w1 hV hE1 => ?_)
  refine RL.box (cs := [vl]) rfl rfl rfl (fun w2 hW hE2 => ?_)
  have hE02 := hE1.trans hE2
  refine RL.y rfl (y_asg rfl) ?_
  refine RL.y rfl (y_asg rfl) ?_
  refine RL.nil ?_
  refine Fin.next ?_
  refine CW.seq ?_
  refine CW.seq ?_
  refine CW.region ?_
  refine RL.y rfl (y_loads ag25 rfl (eqw (hV.ext hE2)) rfl) ?_
  refine RL.y rfl (y_loads ag28 rfl (eqw (hW)) rfl) ?_
  refine RL.litL rfl lT66 (slice_one hr.1) rfl (fun ul wl hL hEl => ?_)
  have hE0l := hE02.trans hEl
  refine RL.call rfl (locksCode_any (RdLs.one hL ⟨vs, hr.ext hE0l⟩)) ?_
  rintro r w4 ⟨rfl, hE4⟩
  rw [coC_lc]
  have hE24 := hEl.trans hE4
  have hE04 := hE02.trans hE24
  refine RL.y rfl (y_asg (v := .int _ _) rfl) ?_
  refine RL.nil ?_
  refine Fin.next ?_
  refine CW.seq ?_
  refine CW.region ?_
  refine RL.y rfl (y_mov (v := .int _ _) rfl) ?_
  refine RL.y rfl (y_ne rfl rfl) ?_
  refine RL.nil ?_
  refine Fin.next ?_
  refine CW.cond rfl rfl (fun h1 => ?_) (fun h1 => ?_)
  · with_reducible first | (replace h1 := deNF h1) | (replace h1 := of_decide_eq_true h1) | (replace h1 := of_decide_eq_false h1) | (replace h1 := deNT h1) | (replace h1 := deNN h1) | (replace h1 := bnT h1) | (replace h1 := bnF h1) | skip
    refine CW.seq ?_
    refine CW.region ?_
    refine RL.y rfl (y_mov (v := .int _ _) rfl) ?_
    refine RL.y rfl (y_asg rfl) ?_
    refine RL.y rfl (y_asg (v := .int _ _) rfl) ?_
    refine RL.nil ?_
    refine Fin.next ?_
    refine CW.ret ?_
    refine Fin.thenRet ?_
    refine Fin.ret2 rfl (by conv => lhs; whnf) (by conv => lhs; whnf) ?_
    exact ⟨_, rfl, by unfold coV; rw [if_neg h1], hE04⟩
  · with_reducible first | (replace h1 := deNF h1) | (replace h1 := of_decide_eq_true h1) | (replace h1 := of_decide_eq_false h1) | (replace h1 := deNT h1) | (replace h1 := deNN h1) | (replace h1 := bnT h1) | (replace h1 := bnF h1) | skip
    have hl := coC_zero.1 h1
    have hlen := hl.2.1
    refine CW.skip ?_
    refine Fin.next ?_
    refine CW.seq ?_
    refine CW.tape (Ext _) [5, 4, 3, 2] mixed (by kernel_rfl) (by kernel_rfl) (Ext.drew _) ?_
    refine TL.y rfl rfl (y_loads ag25 rfl (fun _ hC => ((hV.ext hE2).ext hE24).ext hC) rfl) ?_
    refine TL.y rfl rfl (y_loads ag28 rfl (fun _ hC => (hW.ext hE24).ext hC) rfl) ?_
    refine TL.op rfl (fun hC => ?_)
    refine RL.call rfl (frees_any rfl) ?_
    rintro r w5 ⟨b, rfl, hB, hE5⟩
    refine RL.nil ?_
    refine Fin.tl (by first | exact hC | (refine Ext.trans hC ?_; assumption)) ?_
    refine TL.op rfl (fun hC => ?_)
    refine RL.call rfl (countKeys_any (fun i d => d ∈ ss.getD i []) hl.1 (fun w' i d h1 h2 _ _ => frees1_any (hB.ext h1) (hr.ext ((hE04.trans (Ext.drew _)).trans (hE5.trans h1))) (by omega))) ?_
    rintro r w6 ⟨rfl, hE6⟩
    refine RL.nil ?_
    refine Fin.tl (by first | exact hC | (refine Ext.trans hC ?_; assumption)) ?_
    refine TL.yc rfl rfl (y_asg (v := .int _ _) rfl) ?_
    refine TL.yc rfl rfl (y_asg rfl) ?_
    refine TL.nil (fun hC => ?_)
    refine Fin.next ?_
    refine CW.ret ?_
    refine Fin.ret2 rfl (by conv => lhs; whnf) (by conv => lhs; whnf) ?_
    exact ⟨_, rfl, by unfold coV opN; rw [if_pos h1, h1], ((hE04.trans (Ext.drew _)).trans hE5).trans hE6⟩

theorem wornNb1_any {w : World} {b c d i : Nat} {vl : Value} {cs : List Int} {x a t : Int} (hV : VR w b [vl]) (hW : VR w c [.int .i64 a]) (hX : VR w d [.int .i64 t]) (hv : SI w vl cs) (hi : i < cs.length) (hs : sm8 cs) (hx : 0 ≤ x ∧ x ≤ 8) (ha : 0 ≤ a ∧ a ≤ 19) :
    Does Try.prog 78 #[.int .i64 (i : Int), .int .i64 x, .pointer (some ⟨b, 0, none⟩), .pointer (some ⟨c, 0, none⟩), .pointer (some ⟨d, 0, none⟩)] w (fun r w' => r = .bool (decide (0 < cnt [x] (cs.getD i 0) (a + 1).toNat t)) ∧ Ext w w') := by
  have hg : cs.getD i 0 = cs[i] := getD_lt hi
  have hci := hs _ (List.getElem_mem hi)
  refine enter Try.func78 rfl 18 Try.ntmps78 rfl (by kernel_rfl) ?_
  refine CW.seq ?_
  refine CW.region ?_
  refine RL.y rfl (y_asg rfl) ?_
  refine RL.nil ?_
  refine Fin.next ?_
  refine CW.seq ?_
  refine CW.tape (Ext _) [10, 9, 8, 1] mixed (by kernel_rfl) (by kernel_rfl) (Ext.drew _) ?_
  refine TL.y rfl rfl (y_mov (v := .int _ _) rfl) ?_
  refine TL.op rfl (fun hC => ?_)
  refine RL.lit1 rfl sT29 rfl rfl (fun u w1 hu hE1 hb1 => ?_)
  refine RL.nil ?_
  refine Fin.tl (by first | exact hC | (refine Ext.trans hC ?_; assumption)) ?_
  refine TL.y rfl rfl (y_loadv sc29 (fun _ hC => (hV).ext hC) rfl rfl) ?_
  refine TL.y rfl rfl (y_mov (v := .int _ _) rfl) ?_
  refine TL.y rfl rfl (y_ixa sT29 (fun _ hC => (hv).ext hC) (k := i) (ints_lt hi) rfl rfl) ?_
  refine TL.y rfl rfl (y_load sc2 (fun _ hC => (hv).ext hC) (ints_at hi) rfl) ?_
  refine TL.y rfl rfl (y_loadv sc2 (fun _ hC => (hW).ext hC) rfl rfl) ?_
  refine TL.y rfl rfl (y_loadv sc2 (fun _ hC => (hX).ext hC) rfl rfl) ?_
  refine TL.op rfl (fun hC => ?_)
  refine RL.call rfl (freePlaces_any (set := [x]) hu.sv (fun y hy => by obtain rfl : y = x := (by simpa using hy); exact hx) hci ha) ?_
  rintro r w2 ⟨rfl, hE2⟩
  refine RL.nil ?_
  refine Fin.tl (by first | exact hC | (refine Ext.trans hC ?_; assumption)) ?_
  refine TL.yc rfl rfl (y_gt rfl rfl) ?_
  refine TL.yc rfl rfl (y_asg (v := .bool _) rfl) ?_
  refine TL.nil (fun hC => ?_)
  refine Fin.next ?_
  refine CW.ret ?_
  refine Fin.ret1 rfl (by conv => lhs; whnf) ?_
  exact ⟨_, rfl, by rw [hg]; exact bD ⟨fun h => by omega, fun h => by omega⟩, (Ext.drew w).trans (hE1.trans hE2)⟩

theorem implWornNb_any {w : World} {q : Mk} {v : Value} {cs : List Int} {a t : Int} (hv : SI w v cs) :
    Does Try.prog 40 #[mkA q, v, .int .i64 a, .int .i64 t] w (fun r w' => r = .tuple #[.int .i64 (nbV q cs a t), .int .i64 (nbC q cs a t)] ∧ Ext w w') := by
  obtain ⟨ao, cap, rfl, hsh⟩ := hv.shape
  refine enter Try.func40 rfl 23 Try.ntmps40 rfl (by kernel_rfl) ?_
  refine CW.seq ?_
  refine CW.region ?_
  refine RL.box (cs := [.int .i64 q.ch, .int .i64 q.dp, .int .i64 q.st, .int .i64 q.sm, .int .i64 q.le]) rfl rfl rfl (fun w1 hV hE1 => ?_)
  refine RL.box (cs := [_]) rfl rfl rfl (fun w2 hW hE2 => ?_)
  refine RL.box (cs := [.int .i64 a]) rfl rfl rfl (fun w3 hX hE3 => ?_)
  refine RL.box (cs := [.int .i64 t]) rfl rfl rfl (fun w4 hY hE4 => ?_)
  have hE24 := hE3.trans hE4
  have hE04 := (hE1.trans hE2).trans hE24
  refine RL.y rfl (y_asg rfl) ?_
  refine RL.y rfl (y_asg rfl) ?_
  refine RL.nil ?_
  refine Fin.next ?_
  refine CW.seq ?_
  refine CW.seq ?_
  refine CW.region ?_
  refine RL.y rfl (y_loads ag25 rfl (eqw (((hV.ext hE2).ext hE24))) rfl) ?_
  refine RL.y rfl (y_loadv sc29 (eqw (hW.ext hE24)) rfl rfl) ?_
  refine RL.lit1 rfl sT26 (slice_one hv) rfl (fun u w5 hu hE5 hb5 => ?_)
  refine RL.y rfl (y_loadv sc2 (eqw ((hX.ext hE4).ext hE5)) rfl rfl) ?_
  refine RL.y rfl (y_loadv sc2 (eqw (hY.ext hE5)) rfl rfl) ?_
  refine RL.call rfl (wearCode_any (ls := []) ⟨[], SV.nil _, rfl, fun i hi => absurd hi (Nat.not_lt_zero i)⟩ (rdS_one hu.sv (hv.ext (hE04.trans hE5)))) ?_
  rintro r w6 ⟨rfl, hE6⟩
  rw [wcC_none]
  have hE46 := hE5.trans hE6
  have hE06 := hE04.trans hE46
  refine RL.y rfl (y_asg (v := .int _ _) rfl) ?_
  refine RL.nil ?_
  refine Fin.next ?_
  refine CW.seq ?_
  refine CW.region ?_
  refine RL.y rfl (y_mov (v := .int _ _) rfl) ?_
  refine RL.y rfl (y_ne rfl rfl) ?_
  refine RL.nil ?_
  refine Fin.next ?_
  refine CW.cond rfl rfl (fun h1 => ?_) (fun h1 => ?_)
  · with_reducible first | (replace h1 := deNF h1) | (replace h1 := of_decide_eq_true h1) | (replace h1 := of_decide_eq_false h1) | (replace h1 := deNT h1) | (replace h1 := deNN h1) | (replace h1 := bnT h1) | (replace h1 := bnF h1) | skip
    refine CW.seq ?_
    refine CW.region ?_
    refine RL.y rfl (y_mov (v := .int _ _) rfl) ?_
    refine RL.y rfl (y_asg rfl) ?_
    refine RL.y rfl (y_asg (v := .int _ _) rfl) ?_
    refine RL.nil ?_
    refine Fin.next ?_
    refine CW.ret ?_
    refine Fin.thenRet ?_
    refine Fin.ret2 rfl (by conv => lhs; whnf) (by conv => lhs; whnf) ?_
    exact ⟨_, rfl, by unfold nbV; rw [if_neg h1], hE06⟩
  · with_reducible first | (replace h1 := deNF h1) | (replace h1 := of_decide_eq_true h1) | (replace h1 := of_decide_eq_false h1) | (replace h1 := deNT h1) | (replace h1 := deNN h1) | (replace h1 := bnT h1) | (replace h1 := bnF h1) | skip
    obtain ⟨hm, hn, hk⟩ := nbC_zero.1 h1
    have hkl := hk.1
    have hs8 : sm8 cs := fun x hx => by have := hk.2.1 x hx; have := hm.2.1; omega
    refine CW.skip ?_
    refine Fin.next ?_
    refine CW.seq ?_
    refine CW.region ?_
    refine RL.y rfl (y_loads ag25 rfl (eqw ((hV.ext hE2).ext (hE24.trans hE46))) rfl) ?_
    refine RL.y rfl (y_fnl rfl) ?_
    refine RL.call rfl (countKeys_any (fun i d => 0 < cnt [d] (cs.getD i 0) (a + 1).toNat t) hm (fun w' i d h1 h2 h3 h4 => wornNb1_any ((hW.ext hE24).ext (hE46.trans h1)) ((hX.ext hE4).ext (hE46.trans h1)) (hY.ext (hE46.trans h1)) (hv.ext (hE06.trans h1)) (by omega) hs8 (by have := hm.2.1; omega) hn.1)) ?_
    rintro r w7 ⟨rfl, hE7⟩
    refine RL.y rfl (y_asg (v := .int _ _) rfl) ?_
    refine RL.y rfl (y_asg rfl) ?_
    refine RL.nil ?_
    refine Fin.next ?_
    refine CW.ret ?_
    refine Fin.ret2 rfl (by conv => lhs; whnf) (by conv => lhs; whnf) ?_
    exact ⟨_, rfl, by unfold nbV nbN; rw [if_pos h1, h1], hE06.trans hE7⟩

theorem implCountMayOpen_any {w : World} {q : Mk} {v : Value} {ss : List (List Int)} {a t : Int} (hv : RdL w v ss) :
    Does Try.prog 18 #[mkA q, v, .int .i64 a, .int .i64 t] w (fun r w' => r = .tuple #[.int .i64 (cmV q ss a t), .int .i64 (loC q ss a t)] ∧ Ext w w') := by
  obtain ⟨vl, rfl, vs, hr⟩ := hv
  refine enter Try.func18 rfl 27 Try.ntmps18 rfl (by kernel_rfl) ?_
  refine CW.seq ?_
  refine CW.region ?_
  refine RL.box (cs := [.int .i64 q.ch, .int .i64 q.dp, .int .i64 q.st, .int .i64 q.sm, .int .i64 q.le]) rfl rfl rfl (fun w1 hV hE1 => ?_)
  refine RL.box (cs := [vl]) rfl rfl rfl (fun w2 hW hE2 => ?_)
  have hE02 := hE1.trans hE2
  refine RL.y rfl (y_asg rfl) ?_
  refine RL.y rfl (y_asg rfl) ?_
  refine RL.nil ?_
  refine Fin.next ?_
  refine CW.seq ?_
  refine CW.region ?_
  refine RL.y rfl (y_loads ag25 rfl (eqw (hV.ext hE2)) rfl) ?_
  refine RL.y rfl (y_loads ag28 rfl (eqw (hW)) rfl) ?_
  refine RL.y rfl (y_mov (v := .int _ _) rfl) ?_
  refine RL.y rfl (y_mov (v := .int _ _) rfl) ?_
  refine RL.call rfl (implWornLock_any ⟨vl, rfl, vs, hr.ext hE02⟩) ?_
  rintro r w3 ⟨v1, rfl, ho3, hE3⟩
  obtain ⟨vo, rfl, hoo⟩ := id ho3
  refine RL.y rfl (y_mov (by conv => lhs; whnf)) ?_
  refine RL.y rfl (y_ext0 rfl) ?_
  refine RL.y rfl (y_ext1 rfl) ?_
  refine RL.alloc rfl ze28 (fun w4 hX hE4 => ?_)
  have hl4 := hX.lt
  have hs3 := hE3.size
  refine RL.stores ag28 (hX) rfl rfl rfl rfl (ho3.one) (fun w5 hX5 hg5 => ?_)
  replace hX5 : VR w5 w3.heap.size [vo] := hX5
  have hE35 : Ext w3 w5 := hE4.grown hg5 (fun k hk => by simp only [Option.some.injEq] at hk; omega)
  have hE05 := (hE02.trans hE3).trans hE35
  refine RL.y rfl (y_asg (v := .int _ _) rfl) ?_
  refine RL.nil ?_
  refine Fin.next ?_
  refine CW.seq ?_
  refine CW.seq ?_
  refine CW.region ?_
  refine RL.y rfl (y_mov (v := .int _ _) rfl) ?_
  refine RL.y rfl (y_ne rfl rfl) ?_
  refine RL.nil ?_
  refine Fin.next ?_
  refine CW.cond rfl rfl (fun h1 => ?_) (fun h1 => ?_)
  · with_reducible first | (replace h1 := deNF h1) | (replace h1 := of_decide_eq_true h1) | (replace h1 := of_decide_eq_false h1) | (replace h1 := deNT h1) | (replace h1 := deNN h1) | (replace h1 := bnT h1) | (replace h1 := bnF h1) | skip
    refine CW.seq ?_
    refine CW.region ?_
    refine RL.y rfl (y_mov (v := .int _ _) rfl) ?_
    refine RL.y rfl (y_asg rfl) ?_
    refine RL.y rfl (y_asg (v := .int _ _) rfl) ?_
    refine RL.nil ?_
    refine Fin.next ?_
    refine CW.ret ?_
    refine Fin.thenRet ?_
    refine Fin.ret2 rfl (by conv => lhs; whnf) (by conv => lhs; whnf) ?_
    exact ⟨_, rfl, by unfold cmV; rw [if_neg h1], hE05⟩
  · with_reducible first | (replace h1 := deNF h1) | (replace h1 := of_decide_eq_true h1) | (replace h1 := of_decide_eq_false h1) | (replace h1 := deNT h1) | (replace h1 := deNN h1) | (replace h1 := bnT h1) | (replace h1 := bnF h1) | skip
    have hl := loC_zero.1 h1
    have hlen := hl.1.2.1
    have hwl : (wnV q ss a t).length = ss.length := by rw [wn_ok h1]; exact wnL_len
    obtain ⟨cv, hrd⟩ := (hoo.rd).ext (hE35.trans (Ext.drew _))
    refine CW.skip ?_
    refine Fin.next ?_
    refine CW.seq ?_
    refine CW.tape (Ext _) [5, 4, 3, 2] mixed (by kernel_rfl) (by kernel_rfl) (Ext.drew _) ?_
    refine TL.y rfl rfl (y_loads ag25 rfl (fun _ hC => ((hV.ext hE2).ext (hE3.trans hE35)).ext hC) rfl) ?_
    refine TL.y rfl rfl (y_loads ag28 rfl (fun _ hC => (hX5).ext hC) rfl) ?_
    refine TL.op rfl (fun hC => ?_)
    refine RL.call rfl (frees_any rfl) ?_
    rintro r w6 ⟨b, rfl, hB, hE6⟩
    refine RL.nil ?_
    refine Fin.tl (by first | exact hC | (refine Ext.trans hC ?_; assumption)) ?_
    refine TL.op rfl (fun hC => ?_)
    refine RL.call rfl (countKeys_any (fun i d => d ∈ (wnV q ss a t).getD i []) hl.1.1 (fun w' i d h1 h2 _ _ => frees1_any (hB.ext h1) (hrd.ext (hE6.trans h1)) (by omega))) ?_
    rintro r w7 ⟨rfl, hE7⟩
    refine RL.nil ?_
    refine Fin.tl (by first | exact hC | (refine Ext.trans hC ?_; assumption)) ?_
    refine TL.yc rfl rfl (y_asg (v := .int _ _) rfl) ?_
    refine TL.yc rfl rfl (y_asg rfl) ?_
    refine TL.nil (fun hC => ?_)
    refine Fin.next ?_
    refine CW.ret ?_
    refine Fin.ret2 rfl (by conv => lhs; whnf) (by conv => lhs; whnf) ?_
    exact ⟨_, rfl, by unfold cmV opN; rw [if_pos h1, h1], ((hE05.trans (Ext.drew _)).trans hE6).trans hE7⟩
end Go.Proofs.Ytaepdknmagaokaa
