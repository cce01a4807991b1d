/-
  Reading a building: the two functions.
-/
import Derived.Test.YtebegkegkdmbjaaDoorFRead
import Derived.Test.YtebegkegkdmbjaaDoorRb2
import Derived.Test.YtebegkegkdmbjaaDoorFBld3
import Derived.Test.YtebegkegkdmbjaaDoorLift6
import Derived.Test.YtebegkegkdmbjaaDoorAny7
namespace Go.Proofs.YtebegkegkdmbjaaDoor
open B Go.RowKit

theorem ne_row {a b : Option Nat} (h : ∀ x, a = some x → b = some x → False) : a ≠ b ∨ b = none := by
  cases b with
  | none => exact .inr rfl
  | some b => exact .inl (fun e => h b e rfl)
theorem RuB.nils (w : World) (B : Nat) (U : Nat) (h : U ≤ w.heap.size) : RuB w B U (.agg #[.slice none 0 0, .slice none 0 0]) [] [] :=
  ⟨_, _, rfl, SV.nil w, SV.nil w, (fun b hb => by simp [Value.ownBlock] at hb), (fun b hb => by simp [Value.ownBlock] at hb), h⟩
theorem OwB.nils (w : World) (B : Nat) : OwB w B w.heap.size (.agg #[.slice none 0 0, .slice none 0 0]) [] [] :=
  ⟨_, _, rfl, ⟨OV.nil _ _ _, Nat.le_refl _, (fun b hb => by simp [Value.ownBlock] at hb)⟩, ⟨OV.nil _ _ _, Nat.le_refl _, (fun b hb => by simp [Value.ownBlock] at hb)⟩, fun b h => by simp [Value.ownBlock] at h⟩
theorem itoa_nat (u : Nat) : Lib.itoa (u : Int) = Lib.decDigits u := by unfold Lib.itoa; rw [if_neg (by omega)]; rfl
theorem nb_new {vp vd v : Value} {h : Nat} (hn : v.ownBlock = vp.ownBlock ∨ ∃ b, v.ownBlock = some b ∧ h ≤ b) (hnb : NB vp vd) (hd : ∀ b, vd.ownBlock = some b → b < h) : NB v vd := fun x hx hy => by
  rcases hn with e | ⟨b, e, hb⟩
  · exact hnb x (e.symm.trans hx) hy
  · have := hd x hy; rw [e] at hx; injection hx with hx; omega
theorem nb_symm {a b : Value} (h : NB a b) : NB b a := fun x hx hy => h x hy hx
theorem nb_row {a b : Value} (h : NB a b) : a.ownBlock ≠ b.ownBlock ∨ b.ownBlock = none := ne_row (fun x hx hy => h x hx hy)

theorem specReadBuilding_any {w : World} {s : List UInt8} (hs : s.length ≤ 1048576) :
    Does Tryd.prog 6 #[.string ⟨s.toArray⟩] w (fun r w' => ∃ v1, r = .tuple #[v1, .int .i64 (rbC s)] ∧ RuB w' w.heap.size w'.heap.size v1 (rbP s).1 (rbP s).2 ∧ Ext w w') := by
  have hsl := spl_len s
  refine enter Tryd.func6 rfl 72 Tryd.ntmps6 rfl (by kernel_rfl) ?_
  refine CW.seq ?_
  refine CW.region ?_
  refine RL.alloc rfl ze25 (fun w1 hV1 hE1 => ?_)
  have hl1 := hV1.lt
  refine RL.y rfl (y_asg rfl) ?_
  refine RL.nil ?_
  refine Fin.next ?_
  refine CW.seq ?_
  refine CW.region ?_
  refine RL.y rfl (y_mov (v := .string _) rfl) ?_
  refine RL.call rfl (l01Split_any (s := s) (by omega)) ?_
  rintro vw w2 ⟨⟨hW2, hbw⟩, hE2⟩
  have hE02 := hE1.trans hE2
  refine RL.y rfl (y_asg (by conv => lhs; whnf)) ?_
  refine RL.nil ?_
  refine Fin.next ?_
  refine CW.seq ?_
  refine CW.region ?_
  refine RL.lit1 rfl sT22 rfl rfl (fun vp0 w3 hp3 hE3 hb3 => ?_)
  refine RL.lit1 rfl sT23 rfl rfl (fun vd0 w4 hd4 hE4 hb4 => ?_)
  have hs2 := hE2.size
  have hs3 := hE3.size
  have hs4 := hE4.size
  have hl3 := (hp3.lt _ hb3).2
  replace hp3 : OV w3 w2.heap.size 2 vp0 (ints (-1::[])) := hp3
  replace hd4 : OV w4 w3.heap.size 4 vd0 (bools (false::[])) := hd4
  refine RL.y rfl (y_asg (by conv => lhs; whnf)) ?_
  refine RL.y rfl (y_asg (by conv => lhs; whnf)) ?_
  refine RL.nil ?_
  refine Fin.next ?_
  refine CW.seq ?_
  refine CW.seq ?_
  refine CW.region ?_
  refine RL.y rfl (y_asg rfl) ?_
  refine RL.nil ?_
  refine Fin.next ?_
  refine CW.block ?_
  refine CW.loop (fun m E w' => ∃ (k : Nat) (vp vd : Value) (vs : List Int) (bs : List Bool), m = (spl s).length - k ∧ (k ≤ (spl s).length ∧ vs.length = k ∧ bs.length = k ∧ Tw (spl s) vs bs k) ∧ agrees E [(0, .string ⟨s.toArray⟩), (2, .pointer (some ⟨w.heap.size, 0, none⟩)), (4, vw), (5, vp), (6, vd), (7, .int .i64 (k : Int))] ∧ OV w' w2.heap.size 2 vp (ints (-1::vs)) ∧ OV w' w2.heap.size 4 vd (bools (false::bs)) ∧ NB vp vd ∧ Ext w2 w') _ (⟨0, vp0, vd0, [], [], rfl, ⟨Nat.zero_le _, rfl, rfl, Tw.zero _ _ _⟩, ⟨rfl, rfl, rfl, rfl, rfl, rfl, trivial⟩, hp3.ext hE4, hd4.mono (by omega), fun x hx hy => by rw [hb3] at hx; rw [hb4] at hy; simp only [Option.some.injEq] at hx hy; omega, hE3.trans hE4⟩) ?_
  · rintro m E w5 ⟨k, vp, vd, vs, bs, rfl, ⟨hk, hvl, hbl, htw⟩, hag, hp5, hd5, hnb, hE5⟩
    refine CW.re _ hag rfl ?_
    have hs5 := hE5.size
    have hE05 := hE02.trans hE5
    have hR5 := hV1.ext (hE2.trans hE5)
    refine CW.seq ?_
    refine CW.seq ?_
    refine CW.region ?_
    refine RL.y rfl (y_mov (v := .int _ _) rfl) ?_
    refine RL.y rfl (y_mov (by conv => lhs; whnf)) ?_
    refine RL.y rfl (y_len sT42 (hW2.ext hE5) (strs_len _) rfl) ?_
    refine RL.y rfl (y_lt rfl rfl) ?_
    refine RL.nil ?_
    refine Fin.next ?_
    refine CW.cond rfl rfl (fun hck => ?_) (fun hck => ?_)
    · with_reducible first | (replace hck := deNF hck) | (replace hck := of_decide_eq_true hck) | (replace hck := of_decide_eq_false hck) | (replace hck := deNT hck) | (replace hck := deNN hck) | (replace hck := bnT hck) | (replace hck := bnF hck) | skip
      have hlt : k < (spl s).length := by omega
      refine CW.skip ?_
      refine Fin.next ?_
      refine CW.seq ?_
      refine CW.block ?_
      refine CW.seq ?_
      refine CW.region ?_
      refine RL.y rfl (y_mov (by conv => lhs; whnf)) ?_
      refine RL.y rfl (y_mov (v := .int _ _) rfl) ?_
      refine RL.y rfl (y_ixa sT42 (eqw ((hW2.ext hE5))) (k := k) (by rw [strs_len]; omega) rfl rfl) ?_
      refine RL.y rfl (y_load sc9 (eqw ((hW2.ext hE5))) (strs_at hlt) rfl) ?_
      obtain ⟨x, hx⟩ : ∃ x, x = (spl s)[k] := ⟨_, rfl⟩
      simp only [← hx]
      have hxl : x.length ≤ s.length := spl_part s x (by rw [hx]; exact List.getElem_mem hlt)
      have hxk : (spl s)[k]? = some x := by rw [hx]; exact List.getElem?_eq_getElem hlt
      have hxd : (spl s).getD k [] = x := by rw [hx]; exact getD_lt hlt
      refine RL.y rfl (y_slen Tryd.underlying9 rfl) ?_
      refine RL.y rfl (y_sub rfl rfl (IntWalk.i64_in _ (by omega))) ?_
      refine RL.y rfl (y_asg (v := .int _ _) rfl) ?_
      refine RL.nil ?_
      refine Fin.next ?_
      refine CW.seq ?_
      refine CW.seq ?_
      refine CW.region ?_
      refine RL.y rfl (y_mov (v := .int _ _) rfl) ?_
      refine RL.y rfl (y_lt rfl rfl) ?_
      refine RL.nil ?_
      refine Fin.next ?_
      refine CW.cond rfl rfl (fun h1 => ?_) (fun h1 => ?_)
      · with_reducible first | (replace h1 := deNF h1) | (replace h1 := of_decide_eq_true h1) | (replace h1 := of_decide_eq_false h1) | (replace h1 := deNT h1) | (replace h1 := deNN h1) | (replace h1 := bnT h1) | (replace h1 := bnF h1) | skip
        have hno := rb_no (no_word hxk (fun p d h0 h22 e => by have := (word_parts e).1; omega))
        refine CW.seq ?_
        refine CW.region ?_
        refine RL.y rfl (y_build bd25 rfl fill_nil) ?_
        refine RL.stores ag25 (hR5) rfl rfl rfl rfl (rfl) (fun w8 hV8 hg8 => ?_)
        replace hV8 : VR w8 w.heap.size [.slice none 0 0, .slice none 0 0] := hV8
        refine RL.y rfl (y_asg rfl) ?_
        refine RL.nil ?_
        refine Fin.next ?_
        refine CW.ret ?_
        refine Fin.thenRet ?_
        refine Fin.blockRet ?_
        refine Fin.thenRet ?_
        refine Fin.thenRet ?_
        refine Fin.blockRet ?_
        refine Fin.thenRet ?_
        refine Fin.retct rfl ag25 rfl rfl (hV8) (by conv => lhs; whnf) ?_
        exact ⟨_, rfl, _, by rw [hno.1], by rw [hno.2]; exact RuB.nils _ _ _ (Nat.le_refl _), hE05.grown hg8 (fun b hb => by simp only [Option.some.injEq] at hb; omega)⟩
      · with_reducible first | (replace h1 := deNF h1) | (replace h1 := of_decide_eq_true h1) | (replace h1 := of_decide_eq_false h1) | (replace h1 := deNT h1) | (replace h1 := deNN h1) | (replace h1 := bnT h1) | (replace h1 := bnF h1) | skip
        have hcast : ((x.length : Int) - 1) = ((x.length - 1 : Nat) : Int) := by omega
        rw [hcast]
        refine CW.skip ?_
        refine Fin.next ?_
        refine CW.seq ?_
        refine CW.region ?_
        refine RL.y rfl (y_mov (by conv => lhs; whnf)) ?_
        refine RL.y rfl (y_mov (v := .int _ _) rfl) ?_
        refine RL.y rfl (y_ixa sT42 (eqw ((hW2.ext hE5))) (k := k) (by rw [strs_len]; omega) rfl rfl) ?_
        refine RL.y rfl (y_load sc9 (eqw ((hW2.ext hE5))) ((by rw [strs_at hlt, ← hx])) rfl) ?_
        refine RL.y rfl (y_mov (v := .int _ _) rfl) ?_
        refine RL.y rfl (y_scutH Tryd.underlying9 (Nat.sub_le _ _) rfl rfl) ?_
        refine RL.call rfl (l01Value_any (s := x.take (x.length - 1)) (by rw [List.length_take]; omega)) ?_
        rintro r w6 ⟨v, ok, rfl, hok, hnok, hE6⟩
        have hs6 := hE6.size
        have hE26 := hE5.trans hE6
        refine RL.y rfl (y_mov (by conv => lhs; whnf)) ?_
        refine RL.y rfl (y_ext0 rfl) ?_
        refine RL.y rfl (y_ext1 rfl) ?_
        refine RL.y rfl (y_asg (v := .int _ _) rfl) ?_
        refine RL.y rfl (y_asg (v := .bool _) rfl) ?_
        refine RL.nil ?_
        refine Fin.next ?_
        refine CW.seq ?_
        refine CW.seq ?_
        refine CW.region ?_
        refine RL.y rfl (y_mov (v := .bool _) rfl) ?_
        refine RL.y rfl (y_not rfl) ?_
        refine RL.nil ?_
        refine Fin.next ?_
        refine CW.cond rfl rfl (fun h2 => ?_) (fun h2 => ?_)
        · with_reducible first | (replace h2 := deNF h2) | (replace h2 := of_decide_eq_true h2) | (replace h2 := of_decide_eq_false h2) | (replace h2 := deNT h2) | (replace h2 := deNN h2) | (replace h2 := bnT h2) | (replace h2 := bnF h2) | skip
          have hno := rb_no (no_word hxk (fun p d h0 h22 e => hnok h2 p.toNat (by omega) (by rw [(word_parts e).2.1, ← itoa_nat, Int.toNat_of_nonneg h0])))
          refine CW.seq ?_
          refine CW.region ?_
          refine RL.y rfl (y_build bd25 rfl fill_nil) ?_
          refine RL.stores ag25 (hR5.ext hE6) rfl rfl rfl rfl (rfl) (fun w8 hV8 hg8 => ?_)
          replace hV8 : VR w8 w.heap.size [.slice none 0 0, .slice none 0 0] := hV8
          refine RL.y rfl (y_asg rfl) ?_
          refine RL.nil ?_
          refine Fin.next ?_
          refine CW.ret ?_
          refine Fin.thenRet ?_
          refine Fin.blockRet ?_
          refine Fin.thenRet ?_
          refine Fin.thenRet ?_
          refine Fin.blockRet ?_
          refine Fin.thenRet ?_
          refine Fin.retct rfl ag25 rfl rfl (hV8) (by conv => lhs; whnf) ?_
          exact ⟨_, rfl, _, by rw [hno.1], by rw [hno.2]; exact RuB.nils _ _ _ (Nat.le_refl _), (hE05.trans hE6).grown hg8 (fun b hb => by simp only [Option.some.injEq] at hb; omega)⟩
        · with_reducible first | (replace h2 := deNF h2) | (replace h2 := of_decide_eq_true h2) | (replace h2 := of_decide_eq_false h2) | (replace h2 := deNT h2) | (replace h2 := deNN h2) | (replace h2 := bnT h2) | (replace h2 := bnF h2) | skip
          obtain ⟨u0, rfl, hu⟩ := hok h2
          have hxlast : x.length - 1 < x.length := by omega
          have hc : x[x.length - 1]? = some x[x.length - 1] := List.getElem?_eq_getElem hxlast
          have hxw := word_of (v := (u0 : Int)) (by omega) (by rw [hu, itoa_nat]) hc
          have hd6 := hd5.ext hE6
          refine CW.skip ?_
          refine Fin.next ?_
          refine CW.seq ?_
          refine CW.region ?_
          refine RL.y rfl (y_mov (by conv => lhs; whnf)) ?_
          refine RL.y rfl (y_mov (v := .int _ _) rfl) ?_
          refine RL.app1 rfl rfl sT22 (by omega) (hp5.ext hE6) (by rw [ints_len, List.length_cons]; omega) (by omega) rfl (rfl) (fun _ => rfl) (fun u v7 w7 hp7 hg7 hn7 => ?_)
          replace hp7 : OV w7 w2.heap.size 2 v7 (ints (-1::(vs ++ [(u0 : Int)]))) := by rw [← List.cons_append, ← ints_app]; exact hp7
          have hE7 := hE26.grown hg7 (fun b hb => (hp5.lt b hb).1)
          have hnb7 := nb_new hn7 hnb (fun b hb => (hd6.lt b hb).2)
          have hd7 := hd6.grown hg7 (nb_row (nb_symm hnb))
          refine RL.y rfl (y_asg (by conv => lhs; whnf)) ?_
          refine RL.nil ?_
          refine Fin.next ?_
          refine CW.region ?_
          refine RL.y rfl (y_mov (by conv => lhs; whnf)) ?_
          refine RL.y rfl (y_mov (by conv => lhs; whnf)) ?_
          refine RL.y rfl (y_mov (v := .int _ _) rfl) ?_
          refine RL.y rfl (y_ixa sT42 (eqw ((hW2.ext hE7))) (k := k) (by rw [strs_len]; omega) rfl rfl) ?_
          refine RL.y rfl (y_load sc9 (eqw ((hW2.ext hE7))) ((by rw [strs_at hlt, ← hx])) rfl) ?_
          refine RL.y rfl (y_mov (v := .int _ _) rfl) ?_
          refine RL.y rfl (y_sidx Tryd.underlying9 (hc) rfl rfl) ?_
          refine RL.y rfl (y_eq rfl rfl) ?_
          refine RL.app1 rfl rfl sT23 (by omega) hd7 (by rw [bools_len, List.length_cons]; omega) (by have := hE7.size; omega) rfl (rfl) (fun _ => rfl) (fun u v8 w8 hd8 hg8 hn8 => ?_)
          replace hd8 : OV w8 w2.heap.size 4 v8 (bools (false::(bs ++ [decide ((x[x.length - 1]).toNat = 100)]))) := by rw [← List.cons_append, ← bools_app, show decide ((x[x.length - 1]).toNat = 100) = decide (((x[x.length - 1]).toNat : Int) = 100) from decide_eq_decide.2 (by omega)]; exact hd8
          have hp8 := hp7.grown hg8 (nb_row hnb7)
          have hnb8 := nb_symm (nb_new hn8 (nb_symm hnb7) (fun b hb => (hp7.lt b hb).2))
          refine RL.y rfl (y_asg (by conv => lhs; whnf)) ?_
          refine RL.nil ?_
          refine Fin.blockNormal ?_
          refine Fin.next ?_
          refine CW.region ?_
          refine RL.y rfl (y_mov (v := .int _ _) rfl) ?_
          refine RL.y rfl (y_add rfl rfl (IntWalk.i64_in _ (by omega))) ?_
          refine RL.y rfl (y_asg (v := .int _ _) rfl) ?_
          refine RL.nil ?_
          refine Fin.le ?_
          exact ⟨(spl s).length - (k + 1), by omega, k + 1, v7, v8, _, _, rfl, ⟨hlt, by rw [List.length_append, hvl]; rfl, by rw [List.length_append, hbl]; rfl, htw.succ hvl hbl (by rw [hxd]; exact hxw)⟩, ⟨rfl, rfl, rfl, rfl, rfl, rfl, trivial⟩, hp8, hd8, hnb8, hE7.grown hg8 (fun b hb => (hd7.lt b hb).1)⟩
    · with_reducible first | (replace hck := deNF hck) | (replace hck := of_decide_eq_true hck) | (replace hck := of_decide_eq_false hck) | (replace hck := deNT hck) | (replace hck := deNN hck) | (replace hck := bnT hck) | (replace hck := bnF hck) | skip
      obtain rfl : k = (spl s).length := by omega
      refine CW.exit ?_
      refine Fin.thenExit ?_
      refine Fin.thenExit ?_
      refine Fin.blockHit ?_
      refine Fin.next ?_
      refine CW.seq ?_
      refine CW.region ?_
      refine RL.y rfl (y_mov (by conv => lhs; whnf)) ?_
      refine RL.y rfl (y_mov (by conv => lhs; whnf)) ?_
      refine RL.y rfl (y_build bd25 rfl (fill_one (slice_one hp5.sv) rfl rfl (fill_one (slice_one hd5.sv) rfl rfl fill_nil))) ?_
      refine RL.alloc rfl ze25 (fun w6 hV6 hE6 => ?_)
      refine RL.stores ag25 (hV6) rfl rfl rfl rfl ((show ([vp, vd] : List Value).all (·.oneCell') = true by simp [slice_one hp5.sv, slice_one hd5.sv])) (fun w7 hV7 hg7 => ?_)
      replace hV7 : VR w7 w5.heap.size [vp, vd] := hV7
      have hE57 : Ext w5 w7 := hE6.grown hg7 (fun b hb => by simp only [Option.some.injEq] at hb; omega)
      have hs7 := hE57.size
      refine RL.nil ?_
      refine Fin.next ?_
      refine CW.seq ?_
      refine CW.seq ?_
      refine CW.region ?_
      refine RL.y rfl (y_loads ag25 rfl (eqw (hV7)) rfl) ?_
      refine RL.call rfl (specIsBuilding_any (ps := -1::vs) (ds := false::bs) ⟨vp, vd, rfl, hp5.sv.ext hE57, hd5.sv.ext hE57⟩) ?_
      rintro r w8 ⟨rfl, hE8⟩
      have hE08 := (hE05.trans hE57).trans hE8
      refine RL.y rfl (y_not rfl) ?_
      refine RL.y rfl (y_mov (v := .bool _) rfl) ?_
      refine RL.split (t := 64) rfl rfl (fun h1 => ?_) (fun h1 => ?_)
      · with_reducible first | (replace h1 := deNF h1) | (replace h1 := of_decide_eq_true h1) | (replace h1 := of_decide_eq_false h1) | (replace h1 := deNT h1) | (replace h1 := deNN h1) | (replace h1 := bnT h1) | (replace h1 := bnF h1) | skip
        have hno := rb_no (fun ps ds h => by have := rb_tw h htw hvl hbl; rw [this.1, this.2] at h; exact h1 h.1)
        refine RL.pass (t := 64) rfl rfl rfl rfl ?_
        refine RL.pass (t := 64) rfl rfl rfl rfl ?_
        refine RL.pass (t := 64) rfl rfl rfl rfl ?_
        refine RL.pass (t := 64) rfl rfl rfl rfl ?_
        refine RL.y rfl (y_pickT (v := .bool _) rfl rfl) ?_
        refine RL.nil ?_
        refine Fin.next ?_
        refine CW.condT rfl rfl ?_
        refine CW.seq ?_
        refine CW.region ?_
        refine RL.y rfl (y_build bd25 rfl fill_nil) ?_
        refine RL.stores ag25 (hR5.ext (hE57.trans hE8)) rfl rfl rfl rfl (rfl) (fun w9 hV9 hg9 => ?_)
        replace hV9 : VR w9 w.heap.size [.slice none 0 0, .slice none 0 0] := hV9
        refine RL.y rfl (y_asg rfl) ?_
        refine RL.nil ?_
        refine Fin.next ?_
        refine CW.ret ?_
        refine Fin.thenRet ?_
        refine Fin.retct rfl ag25 rfl rfl (hV9) (by conv => lhs; whnf) ?_
        exact ⟨_, rfl, _, by rw [hno.1], by rw [hno.2]; exact RuB.nils _ _ _ (Nat.le_refl _), hE08.grown hg9 (fun b hb => by simp only [Option.some.injEq] at hb; omega)⟩
      · with_reducible first | (replace h1 := deNF h1) | (replace h1 := of_decide_eq_true h1) | (replace h1 := of_decide_eq_false h1) | (replace h1 := deNT h1) | (replace h1 := deNN h1) | (replace h1 := bnT h1) | (replace h1 := bnF h1) | skip
        refine RL.take (t := 64) rfl rfl rfl ?_
        refine RL.y rfl (y_loads ag25 rfl (eqw (hV7.ext hE8)) rfl) ?_
        refine RL.take (t := 64) rfl rfl rfl ?_
        refine RL.call rfl (l09Text_any (ps := -1::vs) (ds := false::bs) ⟨vp, vd, rfl, hp5.sv.ext (hE57.trans hE8), hd5.sv.ext (hE57.trans hE8)⟩ h1) ?_
        rintro r w9 ⟨rfl, hE9⟩
        have hE59 := (hE57.trans hE8).trans hE9
        have hE09 := hE08.trans hE9
        have hs9 := hE09.size
        refine RL.take (t := 64) rfl rfl rfl ?_
        refine RL.y rfl (y_mov (v := .string _) rfl) ?_
        refine RL.take (t := 64) rfl rfl rfl ?_
        refine RL.y rfl (y_sne rfl rfl) ?_
        refine RL.y rfl (y_pickF (v := .bool _) rfl rfl) ?_
        refine RL.nil ?_
        refine Fin.next ?_
        refine CW.cond rfl rfl (fun h2 => ?_) (fun h2 => ?_)
        · with_reducible first | (replace h2 := deNF h2) | (replace h2 := of_decide_eq_true h2) | (replace h2 := of_decide_eq_false h2) | (replace h2 := deNT h2) | (replace h2 := deNN h2) | (replace h2 := bnT h2) | (replace h2 := bnF h2) | skip
          have hno := rb_no (fun ps ds h => by have := rb_tw h htw hvl hbl; rw [this.1, this.2] at h; exact h2 h.2.symm)
          refine CW.seq ?_
          refine CW.region ?_
          refine RL.y rfl (y_build bd25 rfl fill_nil) ?_
          refine RL.stores ag25 (hR5.ext hE59) rfl rfl rfl rfl (rfl) (fun w10 hV10 hg10 => ?_)
          replace hV10 : VR w10 w.heap.size [.slice none 0 0, .slice none 0 0] := hV10
          refine RL.y rfl (y_asg rfl) ?_
          refine RL.nil ?_
          refine Fin.next ?_
          refine CW.ret ?_
          refine Fin.thenRet ?_
          refine Fin.retct rfl ag25 rfl rfl (hV10) (by conv => lhs; whnf) ?_
          exact ⟨_, rfl, _, by rw [hno.1], by rw [hno.2]; exact RuB.nils _ _ _ (Nat.le_refl _), hE09.grown hg10 (fun b hb => by simp only [Option.some.injEq] at hb; omega)⟩
        · with_reducible first | (replace h2 := deNF h2) | (replace h2 := of_decide_eq_true h2) | (replace h2 := of_decide_eq_false h2) | (replace h2 := deNT h2) | (replace h2 := deNN h2) | (replace h2 := bnT h2) | (replace h2 := bnF h2) | skip
          have hyes := rb_yes (s := s) ⟨h1, h2.symm⟩
          refine CW.skip ?_
          refine Fin.next ?_
          refine CW.seq ?_
          refine CW.region ?_
          refine RL.y rfl (y_loads ag25 rfl (eqw ((hV7.ext hE8).ext hE9)) rfl) ?_
          refine RL.stores ag25 (hR5.ext hE59) rfl rfl rfl rfl ((show ([vp, vd] : List Value).all (·.oneCell') = true by simp [slice_one hp5.sv, slice_one hd5.sv])) (fun w10 hV10 hg10 => ?_)
          replace hV10 : VR w10 w.heap.size [vp, vd] := hV10
          have hs10 := hg10.size
          have hp10 := (hp5.ext hE59).grown hg10 (.inl (fun e => by have := (hp5.lt _ e).1; omega))
          have hd10 := (hd5.ext hE59).grown hg10 (.inl (fun e => by have := (hd5.lt _ e).1; omega))
          refine RL.y rfl (y_asg rfl) ?_
          refine RL.nil ?_
          refine Fin.next ?_
          refine CW.ret ?_
          refine Fin.retct rfl ag25 rfl rfl (hV10) (by conv => lhs; whnf) ?_
          exact ⟨_, rfl, _, by rw [hyes.1], by rw [hyes.2]; exact ⟨vp, vd, rfl, hp10.sv, hd10.sv, (fun b hb => by have := hp10.lt b hb; omega), (fun b hb => by have := hd10.lt b hb; omega), Nat.le_refl _⟩, hE09.grown hg10 (fun b hb => by simp only [Option.some.injEq] at hb; omega)⟩

theorem av_new {v' v : Value} {h a b : Nat} (hn : v'.ownBlock = v.ownBlock ∨ v'.ownBlock = some h) (hv : ∀ x, v.ownBlock = some x → x ≠ a ∧ x ≠ b) (ha : a < h) (hb : b < h) : ∀ x, v'.ownBlock = some x → x ≠ a ∧ x ≠ b := fun x hx => by
  rcases hn with e | e
  · exact hv x (e.symm.trans hx)
  · rw [e] at hx; injection hx with hx; omega
theorem told_step {s : List UInt8} {vs : List Int} {bs : List Bool} {k : Nat} {v : Int} {c : UInt8} {x : List UInt8} (hv : vs.length = k) (hb : bs.length = k) (ht : (spl s).take k = told vs bs k) (hlt : k < (spl s).length) (hx : x = (spl s)[k]) (hw : x = Lib.itoa v ++ [c]) (hc : c = 100 ∨ c = 103) :
    (spl s).take (k + 1) = told (vs ++ [v]) (bs ++ [decide ((c.toNat : Int) = 100)]) (k + 1) := by
  rw [told_succ hv hb, ← ht, List.take_succ_eq_append_getElem hlt, ← hx, hw]
  unfold word
  rcases hc with rfl | rfl <;> rfl

theorem implReadBuilding_any {w : World} {s : List UInt8} (hf : Lf w) (hs : s.length ≤ 1048576) :
    Does Tryd.prog 7 #[.string ⟨s.toArray⟩] w (fun r w' => ∃ v1, r = .tuple #[v1, .int .i64 (rbC s)] ∧ OwB w' w.heap.size w'.heap.size v1 (rbP s).1 (rbP s).2 ∧ Ext w w') := by
  have hsl := spl_len s
  refine enter Tryd.func7 rfl 69 Tryd.ntmps7 rfl (by kernel_rfl) ?_
  refine CW.seq ?_
  refine CW.region ?_
  refine RL.alloc rfl ze25 (fun w1 hV1 hE1 => ?_)
  have hs1 := hE1.size
  have hl1 := hV1.lt
  refine RL.y rfl (y_asg rfl) ?_
  refine RL.nil ?_
  refine Fin.next ?_
  refine CW.seq ?_
  refine CW.region ?_
  refine RL.lit1 rfl sT22 rfl rfl (fun vp0 w2 hp2 hE2 hb2 => ?_)
  refine RL.lit1 rfl sT23 rfl rfl (fun vd0 w3 hd3 hE3 hb3 => ?_)
  have hs2 := hE2.size
  have hs3 := hE3.size
  refine RL.y rfl (y_build bd25 rfl (fill_one (slice_one hp2.sv) rfl rfl (fill_one (slice_one hd3.sv) rfl rfl fill_nil))) ?_
  refine RL.alloc rfl ze25 (fun w4 hV4 hE4 => ?_)
  have hs4 := hE4.size
  have hl4 := hV4.lt
  refine RL.stores ag25 (hV4) rfl rfl rfl rfl ((show ([vp0, vd0] : List Value).all (·.oneCell') = true by simp [slice_one hp2.sv, slice_one hd3.sv])) (fun w5 hV5 hg5 => ?_)
  replace hV5 : VR w5 w3.heap.size [vp0, vd0] := hV5
  have hs5 := hg5.size
  have hE35 : Ext w3 w5 := hE4.grown hg5 (fun b hb => by simp only [Option.some.injEq] at hb; omega)
  have hE05 := ((hE1.trans hE2).trans hE3).trans hE35
  have hR5 := hV1.ext ((hE2.trans hE3).trans hE35)
  refine RL.nil ?_
  refine Fin.next ?_
  refine CW.seq ?_
  refine CW.seq ?_
  refine CW.region ?_
  refine RL.y rfl (y_mov (v := .string _) rfl) ?_
  refine RL.call rfl (split_any (hf.ext hE05) (by omega)) ?_
  rintro vw w6 ⟨⟨hW6, hbw⟩, hE6⟩
  have hs6 := hE6.size
  have hl6 : w5.heap.size < w6.heap.size := hW6.lt (by rw [strs_len]; exact List.length_pos_iff.2 (spl_ne s)) _ hbw
  replace hp2 : OV w2 w1.heap.size 2 vp0 (ints (-1::[])) := hp2
  replace hd3 : OV w3 w2.heap.size 4 vd0 (bools (false::[])) := hd3
  have hl2 := (hp2.lt _ hb2).2
  have hl3 := (hd3.lt _ hb3).2
  refine RL.y rfl (y_len sT42 hW6 (strs_len _) rfl) ?_
  refine RL.y rfl (y_mov rfl) ?_
  refine RL.nil ?_
  refine Fin.next ?_
  refine CW.block ?_
  refine CW.loop (fun m E w' => ∃ (k : Nat) (vp vd : Value) (vs : List Int) (bs : List Bool), m = (spl s).length - k ∧ (k ≤ (spl s).length ∧ vs.length = k ∧ bs.length = k ∧ (spl s).take k = told vs bs k ∧ w6.heap.size ≤ w'.heap.size) ∧ agrees E [(0, .string ⟨s.toArray⟩), (2, .pointer (some ⟨w.heap.size, 0, none⟩)), (4, .pointer (some ⟨w3.heap.size, 0, none⟩)), (14, vw), (15, .int .i64 (spl s).length), (16, .int .i64 (k : Int))] ∧ OV w' w1.heap.size 2 vp (ints (-1::vs)) ∧ OV w' w1.heap.size 4 vd (bools (false::bs)) ∧ (NB vp vd ∧ (∀ b, vp.ownBlock = some b → b ≠ w3.heap.size ∧ b ≠ w5.heap.size) ∧ (∀ b, vd.ownBlock = some b → b ≠ w3.heap.size ∧ b ≠ w5.heap.size)) ∧ (VR w' w.heap.size [.slice none 0 0, .slice none 0 0] ∧ VR w' w3.heap.size [vp, vd] ∧ SV w' vw (strs (spl s))) ∧ Ext w w') _ (⟨0, vp0, vd0, [], [], rfl, ⟨Nat.zero_le _, rfl, rfl, rfl, Nat.le_refl _⟩, ⟨rfl, rfl, rfl, rfl, rfl, rfl, trivial⟩, hp2.ext ((hE3.trans hE35).trans hE6), (hd3.ext (hE35.trans hE6)).mono (by omega), ⟨fun x hx hy => by rw [hb2] at hx; rw [hb3] at hy; simp only [Option.some.injEq] at hx hy; omega, fun b hb => by rw [hb2] at hb; simp only [Option.some.injEq] at hb; omega, fun b hb => by rw [hb3] at hb; simp only [Option.some.injEq] at hb; omega⟩, ⟨hR5.ext hE6, hV5.ext hE6, hW6⟩, hE05.trans hE6⟩) ?_
  · rintro m E w7 ⟨k, vp, vd, vs, bs, rfl, ⟨hk, hvl, hbl, htk, h67⟩, hag, hp7, hd7, ⟨hnb, hap, had⟩, ⟨hR7, hV7, hW7⟩, hE7⟩
    refine CW.re _ hag rfl ?_
    have hs7 := hE7.size
    refine CW.seq ?_
    refine CW.region ?_
    refine RL.y rfl (y_lt rfl rfl) ?_
    refine RL.nil ?_
    refine Fin.next ?_
    refine CW.seq ?_
    refine CW.cond rfl rfl (fun hck => ?_) (fun hck => ?_)
    · with_reducible first | (replace hck := deNF hck) | (replace hck := of_decide_eq_true hck) | (replace hck := of_decide_eq_false hck) | (replace hck := deNT hck) | (replace hck := deNN hck) | (replace hck := bnT hck) | (replace hck := bnF hck) | skip
      have hlt : k < (spl s).length := by omega
      refine CW.skip ?_
      refine Fin.next ?_
      refine CW.seq ?_
      refine CW.block ?_
      refine CW.seq ?_
      refine CW.region ?_
      refine RL.y rfl (y_ixa sT42 (eqw (hW7)) (k := k) (by rw [strs_len]; omega) rfl rfl) ?_
      refine RL.y rfl (y_load sc9 (eqw (hW7)) (strs_at hlt) rfl) ?_
      obtain ⟨x, hx⟩ : ∃ x, x = (spl s)[k] := ⟨_, rfl⟩
      simp only [← hx]
      have hxl : x.length ≤ s.length := spl_part s x (by rw [hx]; exact List.getElem_mem hlt)
      have hxk : (spl s)[k]? = some x := by rw [hx]; exact List.getElem?_eq_getElem hlt
      refine RL.y rfl (y_asg (v := .string _) rfl) ?_
      refine RL.nil ?_
      refine Fin.next ?_
      refine CW.seq ?_
      refine CW.seq ?_
      refine CW.region ?_
      refine RL.y rfl (y_mov (v := .string _) rfl) ?_
      refine RL.y rfl (y_seq rfl rfl) ?_
      refine RL.nil ?_
      refine Fin.next ?_
      refine CW.cond rfl rfl (fun h1 => ?_) (fun h1 => ?_)
      · with_reducible first | (replace h1 := deNF h1) | (replace h1 := of_decide_eq_true h1) | (replace h1 := of_decide_eq_false h1) | (replace h1 := deNT h1) | (replace h1 := deNN h1) | (replace h1 := bnT h1) | (replace h1 := bnF h1) | skip
        replace h1 := of_decide_eq_true h1
        have hno := rb_no (no_word hxk (fun p d h0 h22 e => by have := (word_parts e).1; rw [h1] at this; simp at this))
        refine CW.seq ?_
        refine CW.region ?_
        refine RL.y rfl (y_build bd25 rfl fill_nil) ?_
        refine RL.stores ag25 (hR7) rfl rfl rfl rfl (rfl) (fun w8 hV8 hg8 => ?_)
        replace hV8 : VR w8 w.heap.size [.slice none 0 0, .slice none 0 0] := hV8
        refine RL.y rfl (y_asg rfl) ?_
        refine RL.nil ?_
        refine Fin.next ?_
        refine CW.ret ?_
        refine Fin.thenRet ?_
        refine Fin.blockRet ?_
        refine Fin.thenRet ?_
        refine Fin.thenRet ?_
        refine Fin.blockRet ?_
        refine Fin.thenRet ?_
        refine Fin.retct rfl ag25 rfl rfl (hV8) (by conv => lhs; whnf) ?_
        exact ⟨_, rfl, _, by rw [hno.1], by rw [hno.2]; exact OwB.nils _ _, hE7.grown hg8 (fun b hb => by simp only [Option.some.injEq] at hb; omega)⟩
      · with_reducible first | (replace h1 := deNF h1) | (replace h1 := of_decide_eq_true h1) | (replace h1 := of_decide_eq_false h1) | (replace h1 := deNT h1) | (replace h1 := deNN h1) | (replace h1 := bnT h1) | (replace h1 := bnF h1) | skip
        replace h1 := of_decide_eq_false h1
        have hx0 : 1 ≤ x.length := by rcases Nat.eq_zero_or_pos x.length with h | h; exact absurd (List.eq_nil_of_length_eq_zero h) h1; exact h
        refine CW.skip ?_
        refine Fin.next ?_
        refine CW.seq ?_
        refine CW.region ?_
        refine RL.y rfl (y_mov (v := .string _) rfl) ?_
        refine RL.y rfl (y_slen Tryd.underlying9 rfl) ?_
        refine RL.y rfl (y_sub rfl rfl ((show IntKind.i64.wrap ((x.length : Int) - 1) = ((x.length - 1 : Nat) : Int) by rw [IntWalk.i64_in _ (by omega)]; omega))) ?_
        refine RL.y rfl (y_asg (v := .int _ _) rfl) ?_
        refine RL.nil ?_
        refine Fin.next ?_
        refine CW.seq ?_
        refine CW.region ?_
        refine RL.y rfl (y_mov (v := .string _) rfl) ?_
        refine RL.y rfl (y_mov (v := .int _ _) rfl) ?_
        refine RL.y rfl (y_scutH Tryd.underlying9 (Nat.sub_le _ _) rfl rfl) ?_
        refine RL.call rfl (number_any (s := x.take (x.length - 1)) (hf.ext hE7) (by rw [List.length_take]; omega)) ?_
        rintro r w8 ⟨v, ok, rfl, hok, hnok, hE8⟩
        have hs8 := hE8.size
        have hE08 := hE7.trans hE8
        have hxlast : x.length - 1 < x.length := by omega
        have hc : x[x.length - 1]? = some x[x.length - 1] := List.getElem?_eq_getElem hxlast
        obtain ⟨c, hcc⟩ : ∃ c, c = x[x.length - 1] := ⟨_, rfl⟩
        rw [← hcc] at hc
        have hR8 := hR7.ext hE8
        refine RL.y rfl (y_mov (by conv => lhs; whnf)) ?_
        refine RL.y rfl (y_ext0 rfl) ?_
        refine RL.y rfl (y_ext1 rfl) ?_
        refine RL.y rfl (y_asg (v := .int _ _) rfl) ?_
        refine RL.y rfl (y_asg (v := .bool _) rfl) ?_
        refine RL.nil ?_
        refine Fin.next ?_
        refine CW.cut (fun E w' => agrees E [(0, .string ⟨s.toArray⟩), (2, .pointer (some ⟨w.heap.size, 0, none⟩)), (4, .pointer (some ⟨w3.heap.size, 0, none⟩)), (6, .string ⟨x.toArray⟩), (7, .int .i64 ((x.length - 1 : Nat) : Int)), (8, .int .i64 v), (14, vw), (15, .int .i64 (spl s).length), (16, .int .i64 (k : Int))] ∧ w8 = w' ∧ ok = true ∧ (c = 100 ∨ c = 103)) ?_ ?_
        · refine CW.seq ?_
          refine CW.region ?_
          refine RL.y rfl (y_mov (v := .bool _) rfl) ?_
          refine RL.y rfl (y_not rfl) ?_
          refine RL.y rfl (y_mov (v := .bool _) rfl) ?_
          refine RL.split (t := 35) rfl rfl (fun h2 => ?_) (fun h2 => ?_)
          · with_reducible first | (replace h2 := deNF h2) | (replace h2 := of_decide_eq_true h2) | (replace h2 := of_decide_eq_false h2) | (replace h2 := deNT h2) | (replace h2 := deNN h2) | (replace h2 := bnT h2) | (replace h2 := bnF h2) | skip
            have hno := rb_no (no_word hxk (fun p d h0 h22 e => hnok h2 p (by omega) (by omega) (word_parts e).2.1))
            refine RL.pass (t := 35) rfl rfl rfl rfl ?_
            refine RL.pass (t := 35) rfl rfl rfl rfl ?_
            refine RL.pass (t := 35) rfl rfl rfl rfl ?_
            refine RL.pass (t := 35) rfl rfl rfl rfl ?_
            refine RL.pass (t := 35) rfl rfl rfl rfl ?_
            refine RL.pass2 (t := 40) rfl rfl rfl rfl ?_
            refine RL.pass2 (t := 40) rfl rfl rfl rfl ?_
            refine RL.pass2 (t := 40) rfl rfl rfl rfl ?_
            refine RL.pass2 (t := 40) rfl rfl rfl rfl ?_
            refine RL.pass (t := 35) rfl rfl rfl rfl ?_
            refine RL.y rfl (y_pickT (v := .bool _) rfl rfl) ?_
            refine RL.nil ?_
            refine Fin.next ?_
            refine CW.condT rfl rfl ?_
            refine CW.seq ?_
            refine CW.region ?_
            refine RL.y rfl (y_build bd25 rfl fill_nil) ?_
            refine RL.stores ag25 (hR8) rfl rfl rfl rfl (rfl) (fun w9 hV9 hg9 => ?_)
            replace hV9 : VR w9 w.heap.size [.slice none 0 0, .slice none 0 0] := hV9
            refine RL.y rfl (y_asg rfl) ?_
            refine RL.nil ?_
            refine Fin.next ?_
            refine CW.ret ?_
            refine Fin.thenRet ?_
            refine Fin.blockRet ?_
            refine Fin.thenRet ?_
            refine Fin.thenRet ?_
            refine Fin.blockRet ?_
            refine Fin.thenRet ?_
            refine Fin.retct rfl ag25 rfl rfl (hV9) (by conv => lhs; whnf) ?_
            exact ⟨_, rfl, _, by rw [hno.1], by rw [hno.2]; exact OwB.nils _ _, hE08.grown hg9 (fun b hb => by simp only [Option.some.injEq] at hb; omega)⟩
          · with_reducible first | (replace h2 := deNF h2) | (replace h2 := of_decide_eq_true h2) | (replace h2 := of_decide_eq_false h2) | (replace h2 := deNT h2) | (replace h2 := deNN h2) | (replace h2 := bnT h2) | (replace h2 := bnF h2) | skip
            refine RL.take (t := 35) rfl rfl rfl ?_
            refine RL.y rfl (y_mov (v := .string _) rfl) ?_
            refine RL.take (t := 35) rfl rfl rfl ?_
            refine RL.y rfl (y_mov (v := .int _ _) rfl) ?_
            refine RL.take (t := 35) rfl rfl rfl ?_
            refine RL.y rfl (y_sidx Tryd.underlying9 (hc) rfl rfl) ?_
            refine RL.take (t := 35) rfl rfl rfl ?_
            refine RL.y rfl (y_ne rfl rfl) ?_
            refine RL.take (t := 35) rfl rfl rfl ?_
            refine RL.y rfl (y_mov (v := .bool _) rfl) ?_
            refine RL.split (t := 40) rfl rfl (fun h3 => ?_) (fun h3 => ?_)
            · with_reducible first | (replace h3 := deNF h3) | (replace h3 := of_decide_eq_true h3) | (replace h3 := of_decide_eq_false h3) | (replace h3 := deNT h3) | (replace h3 := deNN h3) | (replace h3 := bnT h3) | (replace h3 := bnF h3) | skip
              refine RL.take (t := 40) rfl rfl rfl ?_
              refine RL.y rfl (y_mov (v := .string _) rfl) ?_
              refine RL.take (t := 40) rfl rfl rfl ?_
              refine RL.y rfl (y_mov (v := .int _ _) rfl) ?_
              refine RL.take (t := 40) rfl rfl rfl ?_
              refine RL.y rfl (y_sidx Tryd.underlying9 (hc) rfl rfl) ?_
              refine RL.take (t := 40) rfl rfl rfl ?_
              refine RL.y rfl (y_ne rfl rfl) ?_
              refine RL.take (t := 35) rfl rfl rfl ?_
              refine RL.y rfl (y_pickT (v := .bool _) rfl rfl) ?_
              refine RL.y rfl (y_pickF (v := .bool _) rfl rfl) ?_
              refine RL.nil ?_
              refine Fin.next ?_
              refine CW.cond rfl rfl (fun h4 => ?_) (fun h4 => ?_)
              · with_reducible first | (replace h4 := deNF h4) | (replace h4 := of_decide_eq_true h4) | (replace h4 := of_decide_eq_false h4) | (replace h4 := deNT h4) | (replace h4 := deNN h4) | (replace h4 := bnT h4) | (replace h4 := bnF h4) | skip
                have hno := rb_no (no_word hxk (fun p d h0 h22 e => by have h5 := (word_parts e).2.2; rw [hc] at h5; injection h5 with h5; cases d <;> simp at h5 <;> subst h5; exact h4 rfl; exact h3 rfl))
                refine CW.seq ?_
                refine CW.region ?_
                refine RL.y rfl (y_build bd25 rfl fill_nil) ?_
                refine RL.stores ag25 (hR8) rfl rfl rfl rfl (rfl) (fun w9 hV9 hg9 => ?_)
                replace hV9 : VR w9 w.heap.size [.slice none 0 0, .slice none 0 0] := hV9
                refine RL.y rfl (y_asg rfl) ?_
                refine RL.nil ?_
                refine Fin.next ?_
                refine CW.ret ?_
                refine Fin.thenRet ?_
                refine Fin.blockRet ?_
                refine Fin.thenRet ?_
                refine Fin.thenRet ?_
                refine Fin.blockRet ?_
                refine Fin.thenRet ?_
                refine Fin.retct rfl ag25 rfl rfl (hV9) (by conv => lhs; whnf) ?_
                exact ⟨_, rfl, _, by rw [hno.1], by rw [hno.2]; exact OwB.nils _ _, hE08.grown hg9 (fun b hb => by simp only [Option.some.injEq] at hb; omega)⟩
              · with_reducible first | (replace h4 := deNF h4) | (replace h4 := of_decide_eq_true h4) | (replace h4 := of_decide_eq_false h4) | (replace h4 := deNT h4) | (replace h4 := deNN h4) | (replace h4 := bnT h4) | (replace h4 := bnF h4) | skip
                refine CW.skip ?_
                refine Fin.le ?_
                exact ⟨⟨rfl, rfl, rfl, rfl, rfl, rfl, rfl, rfl, rfl, trivial⟩, rfl, h2, .inr (by exact UInt8.toNat.inj (by have e : (103 : UInt8).toNat = 103 := rfl; omega))⟩
            · with_reducible first | (replace h3 := deNF h3) | (replace h3 := of_decide_eq_true h3) | (replace h3 := of_decide_eq_false h3) | (replace h3 := deNT h3) | (replace h3 := deNN h3) | (replace h3 := bnT h3) | (replace h3 := bnF h3) | skip
              refine RL.pass (t := 40) rfl rfl rfl rfl ?_
              refine RL.pass (t := 40) rfl rfl rfl rfl ?_
              refine RL.pass (t := 40) rfl rfl rfl rfl ?_
              refine RL.pass (t := 40) rfl rfl rfl rfl ?_
              refine RL.take (t := 35) rfl rfl rfl ?_
              refine RL.y rfl (y_pickF (v := .bool _) rfl rfl) ?_
              refine RL.y rfl (y_pickF (v := .bool _) rfl rfl) ?_
              refine RL.nil ?_
              refine Fin.next ?_
              refine CW.condF rfl rfl ?_
              refine CW.skip ?_
              refine Fin.le ?_
              exact ⟨⟨rfl, rfl, rfl, rfl, rfl, rfl, rfl, rfl, rfl, trivial⟩, rfl, h2, .inl (by exact UInt8.toNat.inj (by have e : (100 : UInt8).toNat = 100 := rfl; omega))⟩
        · rintro E w9 ⟨hag, rfl, h2, h3⟩
          refine CW.re _ hag rfl ?_
          refine Any7.CW.any (fun w' => VR w' w3.heap.size [vp, vd]) [3, 4, 11, 12, 14, 15, 16] mixed rfl ((hV7.ext hE8).ext (Ext.drew _)) ?_
          have hxw := word_of (by omega) (hok h2) hc
          refine Any7.AL.y 0 rfl rfl (by kernel_rfl) (by kernel_rfl) (by kernel_rfl) rfl (y_fa fa25_0 rfl rfl) ?_
          refine Any7.AL.y 1 rfl rfl (by kernel_rfl) (by kernel_rfl) (by kernel_rfl) rfl (y_loadv sc22 (fun _ hC => hC) rfl rfl) ?_
          refine Any7.AL.y 2 rfl rfl (by kernel_rfl) (by kernel_rfl) (by kernel_rfl) rfl (y_mov (v := .int _ _) rfl) ?_
          refine Any7.AL.y 5 rfl rfl (by kernel_rfl) (by kernel_rfl) (by kernel_rfl) rfl (y_fa fa25_1 rfl rfl) ?_
          refine Any7.AL.y 6 rfl rfl (by kernel_rfl) (by kernel_rfl) (by kernel_rfl) rfl (y_loadv sc23 (fun _ hC => hC) rfl rfl) ?_
          refine Any7.AL.y 7 rfl rfl (by kernel_rfl) (by kernel_rfl) (by kernel_rfl) rfl (y_mov (v := .string _) rfl) ?_
          refine Any7.AL.y 8 rfl rfl (by kernel_rfl) (by kernel_rfl) (by kernel_rfl) rfl (y_mov (v := .int _ _) rfl) ?_
          refine Any7.AL.y 9 rfl rfl (by kernel_rfl) (by kernel_rfl) (by kernel_rfl) rfl (y_sidx Tryd.underlying9 (hc) rfl rfl) ?_
          have htold := told_step hvl hbl htk hlt hx hxw h3
          have hs9 : w8.heap.size ≤ w8.drew.heap.size := (Ext.drew _).size
          have hp9 := hp7.ext (hE8.trans (Ext.drew _))
          have hd9 := hd7.ext (hE8.trans (Ext.drew _))
          have hV9 := (hV7.ext hE8).ext (Ext.drew _)
          have hR9 := hR8.ext (Ext.drew _)
          have hW9 := (hW7.ext hE8).ext (Ext.drew _)
          have hE09 := hE08.trans (Ext.drew _)
          refine Any7.AL.y 10 rfl rfl (by kernel_rfl) (by kernel_rfl) (by kernel_rfl) rfl (y_eq rfl rfl) ?_
          refine Any7.AL.two (i := 3) (j := 11) (by kernel_rfl) rfl rfl rfl rfl ?_ ?_ 
          · intro hr hJ
            refine RL.lit1 rfl sT22 (x := .int .i64 v) rfl rfl (fun ui w10 hui10 hE10 hb10 => ?_)
            have hp10 := hp9.ext hE10
            have hd10 := hd9.ext hE10
            have hV10 := hV9.ext hE10
            have hR10 := hR9.ext hE10
            have hW10 := hW9.ext hE10
            have hE010 := hE09.trans hE10
            have hs10 := hE10.size
            refine RL.nil ?_
            refine Any7.Fin.al hr hJ (.inr hV10) ?_
            refine Any7.AL.two (i := 4) (j := 11) (by kernel_rfl) rfl rfl rfl rfl ?_ ?_ 
            · intro hr hJ
              refine RL.app rfl sT22 hp10 hui10.sv (by simp [Value.oneCell']) (by simp [ints_len]; omega) (by simp [ints_len]; omega) (by omega) rfl rfl (fun vp11 w11 hp11 hg11 hn11 => ?_)
              replace hp11 : OV w11 w1.heap.size 2 vp11 (ints (-1::(vs ++ [v]))) := by rw [← List.cons_append, ← ints_app]; exact hp11
              have hd11 := hd10.grown hg11 (nb_row (nb_symm hnb))
              have hV11 := hV10.grown hg11 (fun e => (hap _ e).1 rfl)
              have hW11 := hW10.grown hg11 (ne_row (fun y h1 h2 => by rw [hbw] at h1; injection h1 with h1; exact (hap _ h2).2 h1.symm))
              have hR11 := hR10.grown hg11 (fun e => by have := (hp10.lt _ e).1; omega)
              have hE011 := hE010.grown hg11 (fun b hb => by have := (hp10.lt b hb).1; omega)
              have hs11 := hg11.size
              have ha11 := av_new hn11 hap (by omega) (by omega)
              have hnb11 := nb_new (hn11.imp id (fun h => ⟨_, h, Nat.le_refl _⟩)) hnb (fun b hb => (hd10.lt b hb).2)
              refine RL.nil ?_
              refine Any7.Fin.al hr hJ (.inr hV11) ?_
              refine Any7.AL.y 13 rfl rfl (by kernel_rfl) (by kernel_rfl) (by kernel_rfl) rfl (y_fa fa25_0 rfl rfl) ?_
              refine Any7.AL.one (i := 11) (by kernel_rfl) rfl rfl ?_ 
              intro hr hJ
              refine RL.lit1 rfl sT23 (x := .bool (decide ((c.toNat : Int) = 100))) rfl rfl (fun ub w12 hub12 hE12 hb12 => ?_)
              have hp12 := hp11.ext hE12
              have hd12 := hd11.ext hE12
              have hV12 := hV11.ext hE12
              have hR12 := hR11.ext hE12
              have hW12 := hW11.ext hE12
              have hE012 := hE011.trans hE12
              have hs12 := hE12.size
              refine RL.nil ?_
              refine Any7.Fin.al hr hJ (.inr hV12) ?_
              refine Any7.AL.one (i := 12) (by kernel_rfl) rfl rfl ?_ 
              intro hr hJ
              refine RL.app rfl sT23 hd12 hub12.sv (by simp [Value.oneCell']) (by simp [bools_len]; omega) (by simp [bools_len]; omega) (by omega) rfl rfl (fun vd13 w13 hd13 hg13 hn13 => ?_)
              replace hd13 : OV w13 w1.heap.size 4 vd13 (bools (false::(bs ++ [decide ((c.toNat : Int) = 100)]))) := by rw [← List.cons_append, ← bools_app]; exact hd13
              have hp13 := hp12.grown hg13 (nb_row hnb11)
              have hV13 := hV12.grown hg13 (fun e => (had _ e).1 rfl)
              have hW13 := hW12.grown hg13 (ne_row (fun y h1 h2 => by rw [hbw] at h1; injection h1 with h1; exact (had _ h2).2 h1.symm))
              have hR13 := hR12.grown hg13 (fun e => by have := (hd12.lt _ e).1; omega)
              have hE013 := hE012.grown hg13 (fun b hb => by have := (hd12.lt b hb).1; omega)
              have hs13 := hg13.size
              have ha13 := av_new hn13 had (by omega) (by omega)
              have hnb13 := nb_symm (nb_new (hn13.imp id (fun h => ⟨_, h, Nat.le_refl _⟩)) (nb_symm hnb11) (fun b hb => (hp12.lt b hb).2))
              refine RL.nil ?_
              refine Any7.Fin.al hr hJ (.inr hV13) ?_
              refine Any7.AL.one (i := 14) (by kernel_rfl) rfl rfl ?_ 
              intro hr hJ
              refine RL.storev so22 (hV13) (by simp) rfl rfl (slice_one hp13.sv) (fun w20 hV20 hg20 => ?_)
              replace hV20 : VR w20 w3.heap.size [vp11, vd] := hV20
              have hs20 := hg20.size
              have hp20 := hp13.grown hg20 (.inl (fun e => ((ha11) _ e).1 rfl))
              have hd20 := hd13.grown hg20 (.inl (fun e => ((ha13) _ e).1 rfl))
              have hR20 := hR13.grown hg20 (fun e => by simp only [Option.some.injEq] at e; omega)
              have hW20 := hW13.grown hg20 (.inl (fun e => by rw [hbw] at e; simp only [Option.some.injEq] at e; omega))
              have hE020 := hE013.grown hg20 (fun b hb => by simp only [Option.some.injEq] at hb; omega)
              refine RL.nil ?_
              refine Any7.Fin.al hr hJ (by first | exact .inl (by kernel_rfl) | (refine .inr ?_; assumption)) ?_
              refine Any7.AL.one (i := 15) (by kernel_rfl) rfl rfl ?_ 
              intro hr hJ
              refine RL.y rfl (y_fa fa25_1 rfl rfl) ?_
              refine RL.nil ?_
              refine Any7.Fin.al hr hJ (by first | exact .inl (by kernel_rfl) | (refine .inr ?_; assumption)) ?_
              refine Any7.AL.one (i := 16) (by kernel_rfl) rfl rfl ?_ 
              intro hr hJ
              refine RL.storev so23 (hV20) (by simp) rfl rfl (slice_one hd20.sv) (fun w21 hV21 hg21 => ?_)
              replace hV21 : VR w21 w3.heap.size [vp11, vd13] := hV21
              have hs21 := hg21.size
              have hp21 := hp20.grown hg21 (.inl (fun e => ((ha11) _ e).1 rfl))
              have hd21 := hd20.grown hg21 (.inl (fun e => ((ha13) _ e).1 rfl))
              have hR21 := hR20.grown hg21 (fun e => by simp only [Option.some.injEq] at e; omega)
              have hW21 := hW20.grown hg21 (.inl (fun e => by rw [hbw] at e; simp only [Option.some.injEq] at e; omega))
              have hE021 := hE020.grown hg21 (fun b hb => by simp only [Option.some.injEq] at hb; omega)
              refine RL.nil ?_
              refine Any7.Fin.al hr hJ (by first | exact .inl (by kernel_rfl) | (refine .inr ?_; assumption)) ?_
              refine Any7.AL.nil (by kernel_rfl) ?_
              refine Fin.blockNormal ?_
              refine Fin.next ?_
              refine CW.region ?_
              refine RL.y rfl (y_add rfl rfl (IntWalk.i64_in _ (by omega))) ?_
              refine RL.y rfl (y_mov (v := .int _ _) rfl) ?_
              refine RL.nil ?_
              refine Fin.le ?_
              exact ⟨(spl s).length - (k + 1), by omega, k + 1, vp11, vd13, _, _, rfl, ⟨hlt, by rw [List.length_append, hvl]; rfl, by rw [List.length_append, hbl]; rfl, htold, by omega⟩, ⟨rfl, rfl, rfl, rfl, rfl, rfl, trivial⟩, hp21, hd21, ⟨hnb13, ha11, ha13⟩, ⟨hR21, hV21, hW21⟩, hE021⟩
            · intro hr hJ
              refine RL.lit1 rfl sT23 (x := .bool (decide ((c.toNat : Int) = 100))) rfl rfl (fun ub w11 hub11 hE11 hb11 => ?_)
              have hp11 := hp10.ext hE11
              have hd11 := hd10.ext hE11
              have hV11 := hV10.ext hE11
              have hR11 := hR10.ext hE11
              have hW11 := hW10.ext hE11
              have hui11 := hui10.ext hE11
              have hE011 := hE010.trans hE11
              have hs11 := hE11.size
              refine RL.nil ?_
              refine Any7.Fin.al hr hJ (.inr hV11) ?_
              refine Any7.AL.one (i := 4) (by kernel_rfl) rfl rfl ?_ 
              intro hr hJ
              refine RL.app rfl sT22 hp11 hui11.sv (by simp [Value.oneCell']) (by simp [ints_len]; omega) (by simp [ints_len]; omega) (by omega) rfl rfl (fun vp12 w12 hp12 hg12 hn12 => ?_)
              replace hp12 : OV w12 w1.heap.size 2 vp12 (ints (-1::(vs ++ [v]))) := by rw [← List.cons_append, ← ints_app]; exact hp12
              have hd12 := hd11.grown hg12 (nb_row (nb_symm hnb))
              have hV12 := hV11.grown hg12 (fun e => (hap _ e).1 rfl)
              have hW12 := hW11.grown hg12 (ne_row (fun y h1 h2 => by rw [hbw] at h1; injection h1 with h1; exact (hap _ h2).2 h1.symm))
              have hR12 := hR11.grown hg12 (fun e => by have := (hp11.lt _ e).1; omega)
              have hE012 := hE011.grown hg12 (fun b hb => by have := (hp11.lt b hb).1; omega)
              have hs12 := hg12.size
              have ha12 := av_new hn12 hap (by omega) (by omega)
              have hnb12 := nb_new (hn12.imp id (fun h => ⟨_, h, Nat.le_refl _⟩)) hnb (fun b hb => (hd11.lt b hb).2)
              have hub12 := hub11.grown hg12 (.inl (fun e => by rw [hb11] at e; have := (hp10.lt _ e.symm).2; omega))
              refine RL.nil ?_
              refine Any7.Fin.al hr hJ (.inr hV12) ?_
              refine Any7.AL.y 13 rfl rfl (by kernel_rfl) (by kernel_rfl) (by kernel_rfl) rfl (y_fa fa25_0 rfl rfl) ?_
              refine Any7.AL.one (i := 12) (by kernel_rfl) rfl rfl ?_ 
              intro hr hJ
              refine RL.app rfl sT23 hd12 hub12.sv (by simp [Value.oneCell']) (by simp [bools_len]; omega) (by simp [bools_len]; omega) (by omega) rfl rfl (fun vd13 w13 hd13 hg13 hn13 => ?_)
              replace hd13 : OV w13 w1.heap.size 4 vd13 (bools (false::(bs ++ [decide ((c.toNat : Int) = 100)]))) := by rw [← List.cons_append, ← bools_app]; exact hd13
              have hp13 := hp12.grown hg13 (nb_row hnb12)
              have hV13 := hV12.grown hg13 (fun e => (had _ e).1 rfl)
              have hW13 := hW12.grown hg13 (ne_row (fun y h1 h2 => by rw [hbw] at h1; injection h1 with h1; exact (had _ h2).2 h1.symm))
              have hR13 := hR12.grown hg13 (fun e => by have := (hd12.lt _ e).1; omega)
              have hE013 := hE012.grown hg13 (fun b hb => by have := (hd12.lt b hb).1; omega)
              have hs13 := hg13.size
              have ha13 := av_new hn13 had (by omega) (by omega)
              have hnb13 := nb_symm (nb_new (hn13.imp id (fun h => ⟨_, h, Nat.le_refl _⟩)) (nb_symm hnb12) (fun b hb => (hp12.lt b hb).2))
              refine RL.nil ?_
              refine Any7.Fin.al hr hJ (.inr hV13) ?_
              refine Any7.AL.one (i := 14) (by kernel_rfl) rfl rfl ?_ 
              intro hr hJ
              refine RL.storev so22 (hV13) (by simp) rfl rfl (slice_one hp13.sv) (fun w20 hV20 hg20 => ?_)
              replace hV20 : VR w20 w3.heap.size [vp12, vd] := hV20
              have hs20 := hg20.size
              have hp20 := hp13.grown hg20 (.inl (fun e => ((ha12) _ e).1 rfl))
              have hd20 := hd13.grown hg20 (.inl (fun e => ((ha13) _ e).1 rfl))
              have hR20 := hR13.grown hg20 (fun e => by simp only [Option.some.injEq] at e; omega)
              have hW20 := hW13.grown hg20 (.inl (fun e => by rw [hbw] at e; simp only [Option.some.injEq] at e; omega))
              have hE020 := hE013.grown hg20 (fun b hb => by simp only [Option.some.injEq] at hb; omega)
              refine RL.nil ?_
              refine Any7.Fin.al hr hJ (by first | exact .inl (by kernel_rfl) | (refine .inr ?_; assumption)) ?_
              refine Any7.AL.one (i := 15) (by kernel_rfl) rfl rfl ?_ 
              intro hr hJ
              refine RL.y rfl (y_fa fa25_1 rfl rfl) ?_
              refine RL.nil ?_
              refine Any7.Fin.al hr hJ (by first | exact .inl (by kernel_rfl) | (refine .inr ?_; assumption)) ?_
              refine Any7.AL.one (i := 16) (by kernel_rfl) rfl rfl ?_ 
              intro hr hJ
              refine RL.storev so23 (hV20) (by simp) rfl rfl (slice_one hd20.sv) (fun w21 hV21 hg21 => ?_)
              replace hV21 : VR w21 w3.heap.size [vp12, vd13] := hV21
              have hs21 := hg21.size
              have hp21 := hp20.grown hg21 (.inl (fun e => ((ha12) _ e).1 rfl))
              have hd21 := hd20.grown hg21 (.inl (fun e => ((ha13) _ e).1 rfl))
              have hR21 := hR20.grown hg21 (fun e => by simp only [Option.some.injEq] at e; omega)
              have hW21 := hW20.grown hg21 (.inl (fun e => by rw [hbw] at e; simp only [Option.some.injEq] at e; omega))
              have hE021 := hE020.grown hg21 (fun b hb => by simp only [Option.some.injEq] at hb; omega)
              refine RL.nil ?_
              refine Any7.Fin.al hr hJ (by first | exact .inl (by kernel_rfl) | (refine .inr ?_; assumption)) ?_
              refine Any7.AL.nil (by kernel_rfl) ?_
              refine Fin.blockNormal ?_
              refine Fin.next ?_
              refine CW.region ?_
              refine RL.y rfl (y_add rfl rfl (IntWalk.i64_in _ (by omega))) ?_
              refine RL.y rfl (y_mov (v := .int _ _) rfl) ?_
              refine RL.nil ?_
              refine Fin.le ?_
              exact ⟨(spl s).length - (k + 1), by omega, k + 1, vp12, vd13, _, _, rfl, ⟨hlt, by rw [List.length_append, hvl]; rfl, by rw [List.length_append, hbl]; rfl, htold, by omega⟩, ⟨rfl, rfl, rfl, rfl, rfl, rfl, trivial⟩, hp21, hd21, ⟨hnb13, ha12, ha13⟩, ⟨hR21, hV21, hW21⟩, hE021⟩
          · intro hr hJ
            refine RL.lit1 rfl sT23 (x := .bool (decide ((c.toNat : Int) = 100))) rfl rfl (fun ub w10 hub10 hE10 hb10 => ?_)
            have hp10 := hp9.ext hE10
            have hd10 := hd9.ext hE10
            have hV10 := hV9.ext hE10
            have hR10 := hR9.ext hE10
            have hW10 := hW9.ext hE10
            have hE010 := hE09.trans hE10
            have hs10 := hE10.size
            refine RL.nil ?_
            refine Any7.Fin.al hr hJ (.inr hV10) ?_
            refine Any7.AL.one (i := 3) (by kernel_rfl) rfl rfl ?_ 
            intro hr hJ
            refine RL.lit1 rfl sT22 (x := .int .i64 v) rfl rfl (fun ui w11 hui11 hE11 hb11 => ?_)
            have hp11 := hp10.ext hE11
            have hd11 := hd10.ext hE11
            have hV11 := hV10.ext hE11
            have hR11 := hR10.ext hE11
            have hW11 := hW10.ext hE11
            have hub11 := hub10.ext hE11
            have hE011 := hE010.trans hE11
            have hs11 := hE11.size
            refine RL.nil ?_
            refine Any7.Fin.al hr hJ (.inr hV11) ?_
            refine Any7.AL.one (i := 4) (by kernel_rfl) rfl rfl ?_ 
            intro hr hJ
            refine RL.app rfl sT22 hp11 hui11.sv (by simp [Value.oneCell']) (by simp [ints_len]; omega) (by simp [ints_len]; omega) (by omega) rfl rfl (fun vp12 w12 hp12 hg12 hn12 => ?_)
            replace hp12 : OV w12 w1.heap.size 2 vp12 (ints (-1::(vs ++ [v]))) := by rw [← List.cons_append, ← ints_app]; exact hp12
            have hd12 := hd11.grown hg12 (nb_row (nb_symm hnb))
            have hV12 := hV11.grown hg12 (fun e => (hap _ e).1 rfl)
            have hW12 := hW11.grown hg12 (ne_row (fun y h1 h2 => by rw [hbw] at h1; injection h1 with h1; exact (hap _ h2).2 h1.symm))
            have hR12 := hR11.grown hg12 (fun e => by have := (hp11.lt _ e).1; omega)
            have hE012 := hE011.grown hg12 (fun b hb => by have := (hp11.lt b hb).1; omega)
            have hs12 := hg12.size
            have ha12 := av_new hn12 hap (by omega) (by omega)
            have hnb12 := nb_new (hn12.imp id (fun h => ⟨_, h, Nat.le_refl _⟩)) hnb (fun b hb => (hd11.lt b hb).2)
            have hub12 := hub11.grown hg12 (.inl (fun e => by rw [hb10] at e; have := (hp9.lt _ e.symm).2; omega))
            refine RL.nil ?_
            refine Any7.Fin.al hr hJ (.inr hV12) ?_
            refine Any7.AL.y 13 rfl rfl (by kernel_rfl) (by kernel_rfl) (by kernel_rfl) rfl (y_fa fa25_0 rfl rfl) ?_
            refine Any7.AL.one (i := 12) (by kernel_rfl) rfl rfl ?_ 
            intro hr hJ
            refine RL.app rfl sT23 hd12 hub12.sv (by simp [Value.oneCell']) (by simp [bools_len]; omega) (by simp [bools_len]; omega) (by omega) rfl rfl (fun vd13 w13 hd13 hg13 hn13 => ?_)
            replace hd13 : OV w13 w1.heap.size 4 vd13 (bools (false::(bs ++ [decide ((c.toNat : Int) = 100)]))) := by rw [← List.cons_append, ← bools_app]; exact hd13
            have hp13 := hp12.grown hg13 (nb_row hnb12)
            have hV13 := hV12.grown hg13 (fun e => (had _ e).1 rfl)
            have hW13 := hW12.grown hg13 (ne_row (fun y h1 h2 => by rw [hbw] at h1; injection h1 with h1; exact (had _ h2).2 h1.symm))
            have hR13 := hR12.grown hg13 (fun e => by have := (hd12.lt _ e).1; omega)
            have hE013 := hE012.grown hg13 (fun b hb => by have := (hd12.lt b hb).1; omega)
            have hs13 := hg13.size
            have ha13 := av_new hn13 had (by omega) (by omega)
            have hnb13 := nb_symm (nb_new (hn13.imp id (fun h => ⟨_, h, Nat.le_refl _⟩)) (nb_symm hnb12) (fun b hb => (hp12.lt b hb).2))
            refine RL.nil ?_
            refine Any7.Fin.al hr hJ (.inr hV13) ?_
            refine Any7.AL.one (i := 14) (by kernel_rfl) rfl rfl ?_ 
            intro hr hJ
            refine RL.storev so22 (hV13) (by simp) rfl rfl (slice_one hp13.sv) (fun w20 hV20 hg20 => ?_)
            replace hV20 : VR w20 w3.heap.size [vp12, vd] := hV20
            have hs20 := hg20.size
            have hp20 := hp13.grown hg20 (.inl (fun e => ((ha12) _ e).1 rfl))
            have hd20 := hd13.grown hg20 (.inl (fun e => ((ha13) _ e).1 rfl))
            have hR20 := hR13.grown hg20 (fun e => by simp only [Option.some.injEq] at e; omega)
            have hW20 := hW13.grown hg20 (.inl (fun e => by rw [hbw] at e; simp only [Option.some.injEq] at e; omega))
            have hE020 := hE013.grown hg20 (fun b hb => by simp only [Option.some.injEq] at hb; omega)
            refine RL.nil ?_
            refine Any7.Fin.al hr hJ (by first | exact .inl (by kernel_rfl) | (refine .inr ?_; assumption)) ?_
            refine Any7.AL.one (i := 15) (by kernel_rfl) rfl rfl ?_ 
            intro hr hJ
            refine RL.y rfl (y_fa fa25_1 rfl rfl) ?_
            refine RL.nil ?_
            refine Any7.Fin.al hr hJ (by first | exact .inl (by kernel_rfl) | (refine .inr ?_; assumption)) ?_
            refine Any7.AL.one (i := 16) (by kernel_rfl) rfl rfl ?_ 
            intro hr hJ
            refine RL.storev so23 (hV20) (by simp) rfl rfl (slice_one hd20.sv) (fun w21 hV21 hg21 => ?_)
            replace hV21 : VR w21 w3.heap.size [vp12, vd13] := hV21
            have hs21 := hg21.size
            have hp21 := hp20.grown hg21 (.inl (fun e => ((ha12) _ e).1 rfl))
            have hd21 := hd20.grown hg21 (.inl (fun e => ((ha13) _ e).1 rfl))
            have hR21 := hR20.grown hg21 (fun e => by simp only [Option.some.injEq] at e; omega)
            have hW21 := hW20.grown hg21 (.inl (fun e => by rw [hbw] at e; simp only [Option.some.injEq] at e; omega))
            have hE021 := hE020.grown hg21 (fun b hb => by simp only [Option.some.injEq] at hb; omega)
            refine RL.nil ?_
            refine Any7.Fin.al hr hJ (by first | exact .inl (by kernel_rfl) | (refine .inr ?_; assumption)) ?_
            refine Any7.AL.nil (by kernel_rfl) ?_
            refine Fin.blockNormal ?_
            refine Fin.next ?_
            refine CW.region ?_
            refine RL.y rfl (y_add rfl rfl (IntWalk.i64_in _ (by omega))) ?_
            refine RL.y rfl (y_mov (v := .int _ _) rfl) ?_
            refine RL.nil ?_
            refine Fin.le ?_
            exact ⟨(spl s).length - (k + 1), by omega, k + 1, vp12, vd13, _, _, rfl, ⟨hlt, by rw [List.length_append, hvl]; rfl, by rw [List.length_append, hbl]; rfl, htold, by omega⟩, ⟨rfl, rfl, rfl, rfl, rfl, rfl, trivial⟩, hp21, hd21, ⟨hnb13, ha12, ha13⟩, ⟨hR21, hV21, hW21⟩, hE021⟩
    · with_reducible first | (replace hck := deNF hck) | (replace hck := of_decide_eq_true hck) | (replace hck := of_decide_eq_false hck) | (replace hck := deNT hck) | (replace hck := deNN hck) | (replace hck := bnT hck) | (replace hck := bnF hck) | skip
      obtain rfl : k = (spl s).length := by omega
      rw [List.take_length] at htk
      refine CW.exit ?_
      refine Fin.thenExit ?_
      refine Fin.thenExit ?_
      refine Fin.blockHit ?_
      refine Fin.next ?_
      refine CW.seq ?_
      refine CW.seq ?_
      refine CW.region ?_
      refine RL.y rfl (y_loads ag25 rfl (eqw (hV7)) rfl) ?_
      refine RL.call rfl (implIsBuilding_any (ps := -1::vs) (ds := false::bs) ⟨vp, vd, rfl, hp7.sv, hd7.sv⟩) ?_
      rintro r w8 ⟨rfl, hE8⟩
      have hE08 := hE7.trans hE8
      have hs8 := hE8.size
      refine RL.y rfl (y_not rfl) ?_
      refine RL.nil ?_
      refine Fin.next ?_
      refine CW.cond rfl rfl (fun h1 => ?_) (fun h1 => ?_)
      · with_reducible first | (replace h1 := deNF h1) | (replace h1 := of_decide_eq_true h1) | (replace h1 := of_decide_eq_false h1) | (replace h1 := deNT h1) | (replace h1 := deNN h1) | (replace h1 := bnT h1) | (replace h1 := bnF h1) | skip
        have hno := rb_no (fun ps ds h => by have := rb_tw h (told_tw htk) hvl hbl; rw [this.1, this.2] at h; exact h1 h.1)
        refine CW.seq ?_
        refine CW.region ?_
        refine RL.y rfl (y_build bd25 rfl fill_nil) ?_
        refine RL.stores ag25 (hR7.ext hE8) rfl rfl rfl rfl (rfl) (fun w9 hV9 hg9 => ?_)
        replace hV9 : VR w9 w.heap.size [.slice none 0 0, .slice none 0 0] := hV9
        refine RL.y rfl (y_asg rfl) ?_
        refine RL.nil ?_
        refine Fin.next ?_
        refine CW.ret ?_
        refine Fin.thenRet ?_
        refine Fin.retct rfl ag25 rfl rfl (hV9) (by conv => lhs; whnf) ?_
        exact ⟨_, rfl, _, by rw [hno.1], by rw [hno.2]; exact OwB.nils _ _, hE08.grown hg9 (fun b hb => by simp only [Option.some.injEq] at hb; omega)⟩
      · with_reducible first | (replace h1 := deNF h1) | (replace h1 := of_decide_eq_true h1) | (replace h1 := of_decide_eq_false h1) | (replace h1 := deNT h1) | (replace h1 := deNN h1) | (replace h1 := bnT h1) | (replace h1 := bnF h1) | skip
        have hyes := rb_yes (told_yes htk hvl h1)
        refine CW.skip ?_
        refine Fin.next ?_
        refine CW.seq ?_
        refine CW.region ?_
        refine RL.y rfl (y_loads ag25 rfl (eqw (hV7.ext hE8)) rfl) ?_
        refine RL.stores ag25 (hR7.ext hE8) rfl rfl rfl rfl ((show ([vp, vd] : List Value).all (·.oneCell') = true by simp [slice_one hp7.sv, slice_one hd7.sv])) (fun w9 hV9 hg9 => ?_)
        replace hV9 : VR w9 w.heap.size [vp, vd] := hV9
        have hs9 := hg9.size
        have hp9 := (hp7.ext hE8).grown hg9 (.inl (fun e => by have := (hp7.lt _ e).1; omega))
        have hd9 := (hd7.ext hE8).grown hg9 (.inl (fun e => by have := (hd7.lt _ e).1; omega))
        refine RL.y rfl (y_asg rfl) ?_
        refine RL.nil ?_
        refine Fin.next ?_
        refine CW.ret ?_
        refine Fin.retct rfl ag25 rfl rfl (hV9) (by conv => lhs; whnf) ?_
        exact ⟨_, rfl, _, by rw [hyes.1], by rw [hyes.2]; exact ⟨vp, vd, rfl, ⟨hp9.mono (by omega), Nat.le_refl _, fun b hb => (hp9.lt b hb).2⟩, ⟨hd9.mono (by omega), Nat.le_refl _, fun b hb => (hd9.lt b hb).2⟩, hnb⟩, hE08.grown hg9 (fun b hb => by simp only [Option.some.injEq] at hb; omega)⟩
end Go.Proofs.YtebegkegkdmbjaaDoor
