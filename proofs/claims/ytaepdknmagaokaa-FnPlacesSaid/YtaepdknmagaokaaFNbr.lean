/-
  One key behind the other, and how many may open what a worn key opens.
-/
import Derived.Test.YtaepdknmagaokaaFOpen
import Derived.Test.YtaepdknmagaokaaNbr
namespace Go.Proofs.Ytaepdknmagaokaa
open B Go.RowKit

theorem inb_nil {B U : Nat} : InB B U (.slice none 0 0) := fun b hb => by simp [Value.ownBlock] at hb
theorem keysF_none {q : Mk} {n : Nat} {ks : List Int} (h : ¬ bgn q ks) : keysF q n ks = [] := Classical.byContradiction fun hh => h (keysF_bgn hh)
theorem hd_base {q : Mk} {ks : List Int} (hb : bgn q ks) (h6 : ks.length ≤ 6) : Hd (keysF q 0 ks) (decide (q.le ≤ (kn ks ks.length : Int))) ks := by
  unfold keysF
  by_cases h : q.le ≤ (kn ks ks.length : Int)
  · rw [decide_eq_true h, if_pos ⟨hb, h⟩]; exact .inl ⟨rfl, rfl⟩
  · rw [decide_eq_false h, if_neg (fun hh => h hh.2)]; exact .inr ⟨rfl, rfl, h6⟩
theorem first_at {q : Mk} {n d : Nat} {ks xs : List Int} (hb : bgn q ks) (hd : d < q.dp.toNat) (hno : ∀ e : Nat, e < d → keysF q n (ks ++ [(e : Int)]) = []) (h : (keysF q n (ks ++ [(d : Int)])).head? = some xs) : (keysF q (n + 1) ks).head? = some xs := by
  rw [keysF_up hb, upF_skip d (Nat.zero_le _) (Nat.le_of_lt hd) (fun e _ he => hno e he), upF_step hd]
  show (keysF q n (ks ++ [(d : Int)]) ++ _).head? = _
  cases hk : keysF q n (ks ++ [(d : Int)]) with
  | nil => rw [hk] at h; cases h
  | cons y ys => rw [hk] at h; exact h
theorem first_no {q : Mk} {n : Nat} {ks : List Int} (hno : ∀ e : Nat, e < q.dp.toNat → keysF q n (ks ++ [(e : Int)]) = []) : keysF q (n + 1) ks = [] := by
  by_cases hb : bgn q ks
  · rw [keysF_up hb]; exact upF_none (fun d _ h => hno d h)
  · exact keysF_none hb

theorem l02First_base {w : World} {q : Mk} {u : Value} {ks : List Int} {Bc : Nat} (hm : mkOk q) (hcu : cuts q ks) (hu : SI w u ks) (hB : InB Bc w.heap.size u) (hl : (ks.length : Int) = q.ch) :
    Does Try.prog 75 #[mkA q, u] w (fun r w' => ∃ v1 b xs, r = .tuple #[v1, .bool b] ∧ SI w' v1 xs ∧ InB Bc w'.heap.size v1 ∧ Hd (keysF q 0 ks) b xs ∧ Ext w w') := by
  have m1 := hm.1
  refine enter Try.func75 rfl 42 Try.ntmps75 rfl (by kernel_rfl) ?_
  refine CW.seq ?_
  refine CW.region ?_
  refine RL.box (cs := [.int .i64 q.ch, .int .i64 q.dp, .int .i64 q.st, .int .i64 q.sm, .int .i64 q.le]) rfl rfl rfl (fun w1 hV hE1 => ?_)
  refine RL.y rfl (y_asg rfl) ?_
  refine RL.y rfl (y_asg rfl) ?_
  refine RL.nil ?_
  refine Fin.next ?_
  refine CW.seq ?_
  refine CW.seq ?_
  refine CW.region ?_
  refine RL.y rfl (y_loads ag25 rfl (eqw (hV)) rfl) ?_
  refine RL.y rfl (y_mov (by conv => lhs; whnf)) ?_
  refine RL.call rfl (l02Begins_any hm hcu (hu.ext hE1)) ?_
  rintro r w2 ⟨rfl, hE2⟩
  have hE02 := hE1.trans hE2
  refine RL.y rfl (y_not rfl) ?_
  refine RL.nil ?_
  refine Fin.next ?_
  refine CW.cond rfl rfl (fun h1 => ?_) (fun h1 => ?_)
  · with_reducible first | (replace h1 := deNF h1) | (replace h1 := of_decide_eq_true h1) | (replace h1 := of_decide_eq_false h1) | (replace h1 := deNT h1) | (replace h1 := deNN h1) | (replace h1 := bnT h1) | (replace h1 := bnF h1) | skip
    refine CW.seq ?_
    refine CW.region ?_
    refine RL.y rfl (y_asg rfl) ?_
    refine RL.y rfl (y_asg rfl) ?_
    refine RL.nil ?_
    refine Fin.next ?_
    refine CW.ret ?_
    refine Fin.thenRet ?_
    refine Fin.ret2 rfl (by conv => lhs; whnf) (by conv => lhs; whnf) ?_
    exact ⟨_, rfl, _, _, [], rfl, SV.nil _, inb_nil, .inr ⟨rfl, keysF_none h1, by simp⟩, hE02⟩
  · with_reducible first | (replace h1 := deNF h1) | (replace h1 := of_decide_eq_true h1) | (replace h1 := of_decide_eq_false h1) | (replace h1 := deNT h1) | (replace h1 := deNN h1) | (replace h1 := bnT h1) | (replace h1 := bnF h1) | skip
    refine CW.skip ?_
    refine Fin.next ?_
    refine CW.seq ?_
    refine CW.seq ?_
    refine CW.region ?_
    refine RL.y rfl (y_mov (by conv => lhs; whnf)) ?_
    refine RL.y rfl (y_len sT29 hu (ints_len _) rfl) ?_
    refine RL.y rfl (y_fa fa25_0 rfl rfl) ?_
    refine RL.y rfl (y_loadv sc2 (eqw (hV.ext hE2)) rfl rfl) ?_
    refine RL.y rfl (y_eq rfl rfl) ?_
    refine RL.nil ?_
    refine Fin.next ?_
    refine CW.condT rfl ((decide_eq_true hl)) ?_
    refine CW.seq ?_
    refine CW.quietE mixed (by kernel_rfl) ?_
    refine QL.y rfl (y_mov (by conv => lhs; whnf)) ?_
    refine QL.y rfl (y_mov (by conv => lhs; whnf)) ?_
    refine QL.call rfl (fun _ hC => qc hC (l02Kinds_any ((hu.ext hE02).ext hC))) ?_
    refine QL.y rfl (y_fa fa25_4 rfl rfl) ?_
    refine QL.y rfl (y_loadv sc2 (fun _ hC => (hV.ext hE2).ext hC) rfl rfl) ?_
    refine QL.y rfl (y_ge rfl rfl) ?_
    refine QL.y rfl (y_asg (by conv => lhs; whnf)) ?_
    refine QL.y rfl (y_asg (v := .bool _) rfl) ?_
    refine QL.nil (fun w3 hE3 => ?_)
    refine Fin.next ?_
    refine CW.ret ?_
    refine Fin.thenRet ?_
    refine Fin.ret2 rfl (by conv => lhs; whnf) (by conv => lhs; whnf) ?_
    exact ⟨_, rfl, _, _, ks, rfl, (hu.ext hE02).ext hE3, (fun b hb => by have := hB b hb; have := hE02.size; have := hE3.size; omega), hd_base h1 (by omega), hE02.trans hE3⟩

theorem l02First_step {w : World} {q : Mk} {u : Value} {ks : List Int} {n Bc : Nat} (hm : mkOk q) (hcu : cuts q ks) (hu : SI w u ks) (hB : InB Bc w.heap.size u) (hBw : Bc ≤ w.heap.size) (hl : (ks.length : Int) + ((n : Int) + 1) = q.ch) (ih : ∀ (w' : World) (u' : Value) (ks' : List Int) (Bc' : Nat), cuts q ks' → SI w' u' ks' → InB Bc' w'.heap.size u' → Bc' ≤ w'.heap.size → (ks'.length : Int) + (n : Int) = q.ch → Does Try.prog 75 #[mkA q, u'] w' (fun r w'' => ∃ v1 b xs, r = .tuple #[v1, .bool b] ∧ SI w'' v1 xs ∧ InB Bc' w''.heap.size v1 ∧ Hd (keysF q n ks') b xs ∧ Ext w' w'')) :
    Does Try.prog 75 #[mkA q, u] w (fun r w' => ∃ v1 b xs, r = .tuple #[v1, .bool b] ∧ SI w' v1 xs ∧ InB Bc w'.heap.size v1 ∧ Hd (keysF q (n + 1) ks) b xs ∧ Ext w w') := by
  have m1 := hm.1
  have m2 := hm.2.1
  refine enter Try.func75 rfl 42 Try.ntmps75 rfl (by kernel_rfl) ?_
  refine CW.seq ?_
  refine CW.region ?_
  refine RL.box (cs := [.int .i64 q.ch, .int .i64 q.dp, .int .i64 q.st, .int .i64 q.sm, .int .i64 q.le]) rfl rfl rfl (fun w1 hV hE1 => ?_)
  refine RL.y rfl (y_asg rfl) ?_
  refine RL.y rfl (y_asg rfl) ?_
  refine RL.nil ?_
  refine Fin.next ?_
  refine CW.seq ?_
  refine CW.seq ?_
  refine CW.region ?_
  refine RL.y rfl (y_loads ag25 rfl (eqw (hV)) rfl) ?_
  refine RL.y rfl (y_mov (by conv => lhs; whnf)) ?_
  refine RL.call rfl (l02Begins_any hm hcu (hu.ext hE1)) ?_
  rintro r w2 ⟨rfl, hE2⟩
  have hE02 := hE1.trans hE2
  refine RL.y rfl (y_not rfl) ?_
  refine RL.nil ?_
  refine Fin.next ?_
  refine CW.cond rfl rfl (fun h1 => ?_) (fun h1 => ?_)
  · with_reducible first | (replace h1 := deNF h1) | (replace h1 := of_decide_eq_true h1) | (replace h1 := of_decide_eq_false h1) | (replace h1 := deNT h1) | (replace h1 := deNN h1) | (replace h1 := bnT h1) | (replace h1 := bnF h1) | skip
    refine CW.seq ?_
    refine CW.region ?_
    refine RL.y rfl (y_asg rfl) ?_
    refine RL.y rfl (y_asg rfl) ?_
    refine RL.nil ?_
    refine Fin.next ?_
    refine CW.ret ?_
    refine Fin.thenRet ?_
    refine Fin.ret2 rfl (by conv => lhs; whnf) (by conv => lhs; whnf) ?_
    exact ⟨_, rfl, _, _, [], rfl, SV.nil _, inb_nil, .inr ⟨rfl, keysF_none h1, by simp⟩, hE02⟩
  · with_reducible first | (replace h1 := deNF h1) | (replace h1 := of_decide_eq_true h1) | (replace h1 := of_decide_eq_false h1) | (replace h1 := deNT h1) | (replace h1 := deNN h1) | (replace h1 := bnT h1) | (replace h1 := bnF h1) | skip
    refine CW.skip ?_
    refine Fin.next ?_
    refine CW.seq ?_
    refine CW.seq ?_
    refine CW.region ?_
    refine RL.y rfl (y_mov (by conv => lhs; whnf)) ?_
    refine RL.y rfl (y_len sT29 hu (ints_len _) rfl) ?_
    refine RL.y rfl (y_fa fa25_0 rfl rfl) ?_
    refine RL.y rfl (y_loadv sc2 (eqw (hV.ext hE2)) rfl rfl) ?_
    refine RL.y rfl (y_eq rfl rfl) ?_
    refine RL.nil ?_
    refine Fin.next ?_
    refine CW.condF rfl ((decide_eq_false (by omega))) ?_
    refine CW.skip ?_
    refine Fin.next ?_
    refine CW.seq ?_
    refine CW.seq ?_
    refine CW.region ?_
    refine RL.y rfl (y_asg rfl) ?_
    refine RL.nil ?_
    refine Fin.next ?_
    refine CW.block ?_
    refine CW.loop (fun m E w' => ∃ d : Nat, m = q.dp.toNat - d ∧ d ≤ q.dp.toNat ∧ agrees E [(1, u), (2, .pointer (some ⟨w.heap.size, 0, none⟩)), (6, .int .i64 (d : Int))] ∧ (∀ e : Nat, e < d → keysF q n (ks ++ [(e : Int)]) = []) ∧ Ext w1 w') _ (⟨0, rfl, Nat.zero_le _, ⟨rfl, rfl, rfl, trivial⟩, (fun e he => absurd he (Nat.not_lt_zero e)), hE2⟩) ?_
    · rintro m E w3 ⟨d, rfl, hdd, hag, hno, hE3⟩
      refine CW.re _ hag rfl ?_
      refine CW.seq ?_
      refine CW.seq ?_
      refine CW.region ?_
      refine RL.y rfl (y_mov (v := .int _ _) rfl) ?_
      refine RL.y rfl (y_fa fa25_1 rfl rfl) ?_
      refine RL.y rfl (y_loadv sc2 (eqw (hV.ext hE3)) rfl rfl) ?_
      refine RL.y rfl (y_lt rfl rfl) ?_
      refine RL.nil ?_
      refine Fin.next ?_
      refine CW.cond rfl rfl (fun hcd => ?_) (fun hcd => ?_)
      · with_reducible first | (replace hcd := deNF hcd) | (replace hcd := of_decide_eq_true hcd) | (replace hcd := of_decide_eq_false hcd) | (replace hcd := deNT hcd) | (replace hcd := deNN hcd) | (replace hcd := bnT hcd) | (replace hcd := bnF hcd) | skip
        have hlt : d < q.dp.toNat := by omega
        have hEd := hE3.trans (Ext.drew w3)
        have hud := hu.ext (hE1.trans hEd)
        have hsd := hEd.size
        refine CW.skip ?_
        refine Fin.next ?_
        refine CW.seq ?_
        refine CW.block ?_
        refine CW.seq ?_
        refine CW.any (Ext w1) [2, 4, 5, 6] mixed rfl (hEd) ?_
        refine AL.y 0 rfl rfl (by kernel_rfl) (by kernel_rfl) (by kernel_rfl) rfl (y_loads ag25 rfl (fun _ hC => (hV).ext hC) rfl) ?_
        refine AL.y 1 rfl rfl (by kernel_rfl) (by kernel_rfl) (by kernel_rfl) rfl (y_mov (by conv => lhs; whnf)) ?_
        refine AL.y 3 rfl rfl (by kernel_rfl) (by kernel_rfl) (by kernel_rfl) rfl (y_mov (v := .int _ _) rfl) ?_
        refine AL.two (i := 2) (j := 4) (by kernel_rfl) rfl rfl rfl rfl ?_ ?_ 
        · intro hr hJ
          refine RL.call rfl (l01Own_any hud (by omega)) ?_
          rintro v6 w6 ⟨ho6, hE6⟩
          have hs6 := hE6.size
          refine RL.nil ?_
          refine Fin.al hr hJ (.inr (hEd.trans hE6)) ?_
          refine AL.one (i := 4) (by kernel_rfl) rfl rfl ?_ 
          intro hr hJ
          refine RL.lit1 rfl sT29 rfl rfl (fun vx w7 hx7 hE7 hb7 => ?_)
          have ho7 := ho6.ext hE7
          have hs7 := hE7.size
          refine RL.nil ?_
          refine Fin.al hr hJ (.inr (hEd.trans (hE6.trans hE7))) ?_
          refine AL.one (i := 5) (by kernel_rfl) rfl rfl ?_ 
          intro hr hJ
          refine RL.app rfl sT29 ho7 hx7.sv (ints_one [_]) (by rw [ints_len, List.length_singleton]; omega) (by rw [ints_len, List.length_singleton]; omega) (by omega) rfl rfl (fun v8 w8 ho8 hg8 hn8 => ?_)
          replace ho8 : OV w8 w3.drew.heap.size 2 v8 (ints (ks ++ [(d : Int)])) := by rw [← ints_app]; exact ho8
          have hEd8 : Ext w3.drew w8 := (hE6.trans hE7).grown hg8 (fun b hb => (ho7.lt b hb).1)
          have hs8 := hEd8.size
          refine RL.nil ?_
          refine Fin.al hr hJ (.inr (hEd.trans hEd8)) ?_
          refine AL.one (i := 6) (by kernel_rfl) rfl rfl ?_ 
          intro hr hJ
          refine RL.call rfl (ih w8 v8 (ks ++ [(d : Int)]) w3.drew.heap.size (cuts_snoc hcu (by omega)) ho8.sv (fun b hb => ho8.lt b hb) hs8 (by simp; omega)) ?_
          rintro r9 w9 ⟨v9, b9, xs, rfl, hs9', hi9, hh9, hE9⟩
          have hE19 := hEd.trans (hEd8.trans hE9)
          refine RL.nil ?_
          refine Fin.al hr hJ (.inr hE19) ?_
          refine AL.y 7 rfl rfl (by kernel_rfl) (by kernel_rfl) (by kernel_rfl) rfl (y_mov (by conv => lhs; whnf)) ?_
          refine AL.y 8 rfl rfl (by kernel_rfl) (by kernel_rfl) (by kernel_rfl) rfl (y_ext0 rfl) ?_
          refine AL.y 9 rfl rfl (by kernel_rfl) (by kernel_rfl) (by kernel_rfl) rfl (y_ext1 rfl) ?_
          refine AL.y 10 rfl rfl (by kernel_rfl) (by kernel_rfl) (by kernel_rfl) rfl (y_asg (by conv => lhs; whnf)) ?_
          refine AL.y 11 rfl rfl (by kernel_rfl) (by kernel_rfl) (by kernel_rfl) rfl (y_asg (v := .bool _) rfl) ?_
          refine AL.nil (by kernel_rfl) ?_
          refine Fin.next ?_
          refine CW.seq ?_
          refine CW.region ?_
          refine RL.y rfl (y_mov (v := .bool _) rfl) ?_
          refine RL.nil ?_
          refine Fin.next ?_
          refine CW.cond rfl rfl (fun h9 => ?_) (fun h9 => ?_)
          · with_reducible first | (replace h9 := deNF h9) | (replace h9 := of_decide_eq_true h9) | (replace h9 := of_decide_eq_false h9) | (replace h9 := deNT h9) | (replace h9 := deNN h9) | (replace h9 := bnT h9) | (replace h9 := bnF h9) | skip
            subst h9
            refine CW.seq ?_
            refine CW.region ?_
            refine RL.y rfl (y_mov (by conv => lhs; whnf)) ?_
            refine RL.y rfl (y_asg (by conv => lhs; whnf)) ?_
            refine RL.y rfl (y_asg rfl) ?_
            refine RL.nil ?_
            refine Fin.next ?_
            refine CW.ret ?_
            refine Fin.blockRet ?_
            refine Fin.thenRet ?_
            refine Fin.thenRet ?_
            refine Fin.blockRet ?_
            refine Fin.thenRet ?_
            refine Fin.ret2 rfl (by conv => lhs; whnf) (by conv => lhs; whnf) ?_
            exact ⟨_, rfl, _, _, xs, rfl, hs9', (fun b hb => by have := hi9 b hb; have := hE1.size; omega), .inl ⟨rfl, first_at h1 hlt hno hh9.yes⟩, hE1.trans hE19⟩
          · with_reducible first | (replace h9 := deNF h9) | (replace h9 := of_decide_eq_true h9) | (replace h9 := of_decide_eq_false h9) | (replace h9 := deNT h9) | (replace h9 := deNN h9) | (replace h9 := bnT h9) | (replace h9 := bnF h9) | skip
            subst h9
            refine CW.skip ?_
            refine Fin.blockNormal ?_
            refine Fin.next ?_
            refine CW.region ?_
            refine RL.y rfl (y_mov (v := .int _ _) rfl) ?_
            refine RL.y rfl (y_add rfl rfl (IntWalk.i64_in _ (by omega))) ?_
            refine RL.y rfl (y_asg (v := .int _ _) rfl) ?_
            refine RL.nil ?_
            refine Fin.le ?_
            exact ⟨q.dp.toNat - (d + 1), by omega, d + 1, rfl, hlt, ⟨rfl, rfl, rfl, trivial⟩, all_succ hno hh9.no, hE19⟩
        · intro hr hJ
          refine RL.lit1 rfl sT29 rfl rfl (fun vx w6 hx6 hE6 hb6 => ?_)
          have hs6 := hE6.size
          refine RL.nil ?_
          refine Fin.al hr hJ (.inr (hEd.trans hE6)) ?_
          refine AL.one (i := 2) (by kernel_rfl) rfl rfl ?_ 
          intro hr hJ
          refine RL.call rfl (l01Own_any (hud.ext hE6) (by omega)) ?_
          rintro v6 w7 ⟨ho7', hE7⟩
          have hs7 := hE7.size
          have ho7 := ho7'.mono hs6
          have hx7 := hx6.ext hE7
          refine RL.nil ?_
          refine Fin.al hr hJ (.inr (hEd.trans (hE6.trans hE7))) ?_
          refine AL.one (i := 5) (by kernel_rfl) rfl rfl ?_ 
          intro hr hJ
          refine RL.app rfl sT29 ho7 hx7.sv (ints_one [_]) (by rw [ints_len, List.length_singleton]; omega) (by rw [ints_len, List.length_singleton]; omega) (by omega) rfl rfl (fun v8 w8 ho8 hg8 hn8 => ?_)
          replace ho8 : OV w8 w3.drew.heap.size 2 v8 (ints (ks ++ [(d : Int)])) := by rw [← ints_app]; exact ho8
          have hEd8 : Ext w3.drew w8 := (hE6.trans hE7).grown hg8 (fun b hb => (ho7.lt b hb).1)
          have hs8 := hEd8.size
          refine RL.nil ?_
          refine Fin.al hr hJ (.inr (hEd.trans hEd8)) ?_
          refine AL.one (i := 6) (by kernel_rfl) rfl rfl ?_ 
          intro hr hJ
          refine RL.call rfl (ih w8 v8 (ks ++ [(d : Int)]) w3.drew.heap.size (cuts_snoc hcu (by omega)) ho8.sv (fun b hb => ho8.lt b hb) hs8 (by simp; omega)) ?_
          rintro r9 w9 ⟨v9, b9, xs, rfl, hs9', hi9, hh9, hE9⟩
          have hE19 := hEd.trans (hEd8.trans hE9)
          refine RL.nil ?_
          refine Fin.al hr hJ (.inr hE19) ?_
          refine AL.y 7 rfl rfl (by kernel_rfl) (by kernel_rfl) (by kernel_rfl) rfl (y_mov (by conv => lhs; whnf)) ?_
          refine AL.y 8 rfl rfl (by kernel_rfl) (by kernel_rfl) (by kernel_rfl) rfl (y_ext0 rfl) ?_
          refine AL.y 9 rfl rfl (by kernel_rfl) (by kernel_rfl) (by kernel_rfl) rfl (y_ext1 rfl) ?_
          refine AL.y 10 rfl rfl (by kernel_rfl) (by kernel_rfl) (by kernel_rfl) rfl (y_asg (by conv => lhs; whnf)) ?_
          refine AL.y 11 rfl rfl (by kernel_rfl) (by kernel_rfl) (by kernel_rfl) rfl (y_asg (v := .bool _) rfl) ?_
          refine AL.nil (by kernel_rfl) ?_
          refine Fin.next ?_
          refine CW.seq ?_
          refine CW.region ?_
          refine RL.y rfl (y_mov (v := .bool _) rfl) ?_
          refine RL.nil ?_
          refine Fin.next ?_
          refine CW.cond rfl rfl (fun h9 => ?_) (fun h9 => ?_)
          · with_reducible first | (replace h9 := deNF h9) | (replace h9 := of_decide_eq_true h9) | (replace h9 := of_decide_eq_false h9) | (replace h9 := deNT h9) | (replace h9 := deNN h9) | (replace h9 := bnT h9) | (replace h9 := bnF h9) | skip
            subst h9
            refine CW.seq ?_
            refine CW.region ?_
            refine RL.y rfl (y_mov (by conv => lhs; whnf)) ?_
            refine RL.y rfl (y_asg (by conv => lhs; whnf)) ?_
            refine RL.y rfl (y_asg rfl) ?_
            refine RL.nil ?_
            refine Fin.next ?_
            refine CW.ret ?_
            refine Fin.blockRet ?_
            refine Fin.thenRet ?_
            refine Fin.thenRet ?_
            refine Fin.blockRet ?_
            refine Fin.thenRet ?_
            refine Fin.ret2 rfl (by conv => lhs; whnf) (by conv => lhs; whnf) ?_
            exact ⟨_, rfl, _, _, xs, rfl, hs9', (fun b hb => by have := hi9 b hb; have := hE1.size; omega), .inl ⟨rfl, first_at h1 hlt hno hh9.yes⟩, hE1.trans hE19⟩
          · with_reducible first | (replace h9 := deNF h9) | (replace h9 := of_decide_eq_true h9) | (replace h9 := of_decide_eq_false h9) | (replace h9 := deNT h9) | (replace h9 := deNN h9) | (replace h9 := bnT h9) | (replace h9 := bnF h9) | skip
            subst h9
            refine CW.skip ?_
            refine Fin.blockNormal ?_
            refine Fin.next ?_
            refine CW.region ?_
            refine RL.y rfl (y_mov (v := .int _ _) rfl) ?_
            refine RL.y rfl (y_add rfl rfl (IntWalk.i64_in _ (by omega))) ?_
            refine RL.y rfl (y_asg (v := .int _ _) rfl) ?_
            refine RL.nil ?_
            refine Fin.le ?_
            exact ⟨q.dp.toNat - (d + 1), by omega, d + 1, rfl, hlt, ⟨rfl, rfl, rfl, trivial⟩, all_succ hno hh9.no, hE19⟩
      · with_reducible first | (replace hcd := deNF hcd) | (replace hcd := of_decide_eq_true hcd) | (replace hcd := of_decide_eq_false hcd) | (replace hcd := deNT hcd) | (replace hcd := deNN hcd) | (replace hcd := bnT hcd) | (replace hcd := bnF hcd) | skip
        obtain rfl : d = q.dp.toNat := by omega
        refine CW.exit ?_
        refine Fin.thenExit ?_
        refine Fin.thenExit ?_
        refine Fin.blockHit ?_
        refine Fin.next ?_
        refine CW.seq ?_
        refine CW.region ?_
        refine RL.y rfl (y_asg rfl) ?_
        refine RL.y rfl (y_asg rfl) ?_
        refine RL.nil ?_
        refine Fin.next ?_
        refine CW.ret ?_
        refine Fin.ret2 rfl (by conv => lhs; whnf) (by conv => lhs; whnf) ?_
        exact ⟨_, rfl, _, _, [], rfl, SV.nil _, inb_nil, .inr ⟨rfl, first_no hno, by simp⟩, hE1.trans hE3⟩

theorem l02First_any {q : Mk} (hm : mkOk q) : ∀ (n : Nat) (w : World) (u : Value) (ks : List Int) (Bc : Nat), cuts q ks → SI w u ks → InB Bc w.heap.size u → Bc ≤ w.heap.size → (ks.length : Int) + (n : Int) = q.ch → Does Try.prog 75 #[mkA q, u] w (fun r w'' => ∃ v1 b xs, r = .tuple #[v1, .bool b] ∧ SI w'' v1 xs ∧ InB Bc w''.heap.size v1 ∧ Hd (keysF q n ks) b xs ∧ Ext w w'')
  | 0, w, u, ks, Bc, hcu, hu, hB, _, hl => l02First_base hm hcu hu hB (by omega)
  | n + 1, w, u, ks, Bc, hcu, hu, hB, hBw, hl => l02First_step hm hcu hu hB hBw (by omega) (fun w' u' ks' Bc' => l02First_any hm n w' u' ks' Bc')

theorem next_at {q : Mk} {cs xs : List Int} {i d : Nat} (hi : i < cs.length) (haf : aft q (cs.length - (i + 1)) (cs.take (i + 1)) cs = []) (h1 : (cs[i] + 1).toNat ≤ d) (hd : d < q.dp.toNat)
    (hno : ∀ e : Nat, (cs[i] + 1).toNat ≤ e → e < d → keysF q (cs.length - (i + 1)) (cs.take i ++ [(e : Int)]) = []) (h : (keysF q (cs.length - (i + 1)) (cs.take i ++ [(d : Int)])).head? = some xs) : (aft q cs.length [] cs).head? = some xs := by
  refine aft_top i (cs.length - (i + 1) + 1) (by omega) ?_
  rw [aft_step hi, haf, List.nil_append, getD_lt hi, upF_skip d h1 (Nat.le_of_lt hd) hno, upF_step hd]
  show (keysF q (cs.length - (i + 1)) (cs.take i ++ [(d : Int)]) ++ _).head? = _
  cases hk : keysF q (cs.length - (i + 1)) (cs.take i ++ [(d : Int)]) with
  | nil => rw [hk] at h; cases h
  | cons y ys => rw [hk] at h; exact h
theorem next_no {q : Mk} {cs : List Int} {i : Nat} (hi : i < cs.length) (haf : aft q (cs.length - (i + 1)) (cs.take (i + 1)) cs = [])
    (hno : ∀ e : Nat, (cs[i] + 1).toNat ≤ e → e < q.dp.toNat → keysF q (cs.length - (i + 1)) (cs.take i ++ [(e : Int)]) = []) : aft q (cs.length - i) (cs.take i) cs = [] := by
  rw [show cs.length - i = cs.length - (i + 1) + 1 from by omega, aft_step hi, haf, List.nil_append, getD_lt hi]
  exact upF_none hno
theorem cuts_take {q : Mk} {cs : List Int} {i : Nat} (h : cuts q cs) : cuts q (cs.take i) := fun x hx => h x (List.mem_of_mem_take hx)

theorem l02Next_any {w : World} {q : Mk} {u : Value} {cs : List Int} (hm : mkOk q) (hcu : cuts q cs) (hu : SI w u cs) (hl : (cs.length : Int) = q.ch) :
    Does Try.prog 77 #[mkA q, u] w (fun r w' => ∃ v1 b xs, r = .tuple #[v1, .bool b] ∧ SI w' v1 xs ∧ InB w.heap.size w'.heap.size v1 ∧ Hd (aft q cs.length [] cs) b xs ∧ Ext w w') := by
  have m1 := hm.1
  have m2 := hm.2.1
  refine enter Try.func77 rfl 42 Try.ntmps77 rfl (by kernel_rfl) ?_
  refine CW.seq ?_
  refine CW.region ?_
  refine RL.box (cs := [.int .i64 q.ch, .int .i64 q.dp, .int .i64 q.st, .int .i64 q.sm, .int .i64 q.le]) rfl rfl rfl (fun w1 hV hE1 => ?_)
  refine RL.y rfl (y_asg rfl) ?_
  refine RL.y rfl (y_asg rfl) ?_
  refine RL.nil ?_
  refine Fin.next ?_
  refine CW.seq ?_
  refine CW.seq ?_
  refine CW.region ?_
  refine RL.y rfl (y_mov (by conv => lhs; whnf)) ?_
  refine RL.y rfl (y_len sT29 hu (ints_len _) rfl) ?_
  refine RL.y rfl (y_sub rfl rfl (IntWalk.i64_in _ (by omega))) ?_
  refine RL.y rfl (y_asg (v := .int _ _) rfl) ?_
  refine RL.nil ?_
  refine Fin.next ?_
  refine CW.block ?_
  refine CW.loop (fun m E w' => ∃ j : Nat, m = j ∧ j ≤ cs.length ∧ agrees E [(1, u), (2, .pointer (some ⟨w.heap.size, 0, none⟩)), (6, .int .i64 ((j : Int) - 1))] ∧ aft q (cs.length - j) (cs.take j) cs = [] ∧ Ext w1 w') _ (⟨cs.length, rfl, Nat.le_refl _, ⟨rfl, rfl, rfl, trivial⟩, by rw [Nat.sub_self]; rfl, Ext.refl _⟩) ?_
  · rintro m E w2 ⟨j, rfl, hj, hag, haf, hE2⟩
    refine CW.re _ hag rfl ?_
    refine CW.seq ?_
    refine CW.seq ?_
    refine CW.region ?_
    refine RL.y rfl (y_mov (v := .int _ _) rfl) ?_
    refine RL.y rfl (y_ge rfl rfl) ?_
    refine RL.nil ?_
    refine Fin.next ?_
    refine CW.cond rfl rfl (fun hc0 => ?_) (fun hc0 => ?_)
    · with_reducible first | (replace hc0 := deNF hc0) | (replace hc0 := of_decide_eq_true hc0) | (replace hc0 := of_decide_eq_false hc0) | (replace hc0 := deNT hc0) | (replace hc0 := deNN hc0) | (replace hc0 := bnT hc0) | (replace hc0 := bnF hc0) | skip
      obtain ⟨i, rfl⟩ : ∃ i, m = i + 1 := ⟨m - 1, by omega⟩
      have hi : i < cs.length := by omega
      have hci := hcu _ (List.getElem_mem hi)
      rw [show ((i + 1 : Nat) : Int) - 1 = (i : Int) from by omega]
      have hu1 := hu.ext hE1
      refine CW.skip ?_
      refine Fin.next ?_
      refine CW.seq ?_
      refine CW.block ?_
      refine CW.seq ?_
      refine CW.region ?_
      refine RL.y rfl (y_mov (by conv => lhs; whnf)) ?_
      refine RL.y rfl (y_mov (v := .int _ _) rfl) ?_
      refine RL.y rfl (y_ixa sT29 (eqw (hu1.ext hE2)) (k := i) (ints_lt hi) rfl rfl) ?_
      refine RL.y rfl (y_load sc2 (eqw (hu1.ext hE2)) (ints_at hi) rfl) ?_
      refine RL.y rfl (y_add rfl rfl (IntWalk.i64_in _ (by omega))) ?_
      refine RL.y rfl (y_asg (v := .int _ _) rfl) ?_
      refine RL.nil ?_
      refine Fin.next ?_
      refine CW.block ?_
      refine CW.loop (fun m E w' => ∃ d : Nat, m = q.dp.toNat - d ∧ ((cs[i] + 1).toNat ≤ d ∧ d ≤ q.dp.toNat) ∧ agrees E [(1, u), (2, .pointer (some ⟨w.heap.size, 0, none⟩)), (6, .int .i64 (i : Int)), (7, .int .i64 (d : Int))] ∧ (∀ e : Nat, (cs[i] + 1).toNat ≤ e → e < d → keysF q (cs.length - (i + 1)) (cs.take i ++ [(e : Int)]) = []) ∧ Ext w1 w') _ (⟨(cs[i] + 1).toNat, rfl, ⟨Nat.le_refl _, by omega⟩, ⟨rfl, rfl, rfl, congrArg (Value.int .i64) (show cs[i] + 1 = (((cs[i] + 1).toNat : Nat) : Int) by omega), trivial⟩, (fun e h1 h2 => absurd h1 (by omega)), hE2⟩) ?_
      · rintro m E w3 ⟨d, rfl, ⟨hd1, hd2⟩, hag, hno, hE3⟩
        refine CW.re _ hag rfl ?_
        refine CW.seq ?_
        refine CW.seq ?_
        refine CW.region ?_
        refine RL.y rfl (y_mov (v := .int _ _) rfl) ?_
        refine RL.y rfl (y_fa fa25_1 rfl rfl) ?_
        refine RL.y rfl (y_loadv sc2 (eqw (hV.ext hE3)) rfl rfl) ?_
        refine RL.y rfl (y_lt rfl rfl) ?_
        refine RL.nil ?_
        refine Fin.next ?_
        refine CW.cond rfl rfl (fun hcd => ?_) (fun hcd => ?_)
        · with_reducible first | (replace hcd := deNF hcd) | (replace hcd := of_decide_eq_true hcd) | (replace hcd := of_decide_eq_false hcd) | (replace hcd := deNT hcd) | (replace hcd := deNN hcd) | (replace hcd := bnT hcd) | (replace hcd := bnF hcd) | skip
          have hlt : d < q.dp.toNat := by omega
          have hEd := hE3.trans (Ext.drew w3)
          have hud : SI w3.drew (vcut u 0 i) (cs.take i) := SI.take (hu1.ext hEd) (Nat.le_of_lt hi)
          have hsd := hEd.size
          have htl : (cs.take i).length = i := by rw [List.length_take]; omega
          refine CW.skip ?_
          refine Fin.next ?_
          refine CW.seq ?_
          refine CW.block ?_
          refine CW.seq ?_
          refine CW.any (Ext w1) [4, 6, 7, 8] mixed rfl (hEd) ?_
          refine AL.y 0 rfl rfl (by kernel_rfl) (by kernel_rfl) (by kernel_rfl) rfl (y_loads ag25 rfl (fun _ hC => (hV).ext hC) rfl) ?_
          refine AL.y 1 rfl rfl (by kernel_rfl) (by kernel_rfl) (by kernel_rfl) rfl (y_mov (by conv => lhs; whnf)) ?_
          refine AL.y 2 rfl rfl (by kernel_rfl) (by kernel_rfl) (by kernel_rfl) rfl (y_mov (v := .int _ _) rfl) ?_
          refine AL.y 3 rfl rfl (by kernel_rfl) (by kernel_rfl) (by kernel_rfl) rfl (y_cutH sT29 (fun _ hC => (hu1).ext hC) (h := i) (by rw [ints_len]; omega) rfl rfl ) ?_
          refine AL.y 5 rfl rfl (by kernel_rfl) (by kernel_rfl) (by kernel_rfl) rfl (y_mov (v := .int _ _) rfl) ?_
          refine AL.two (i := 4) (j := 6) (by kernel_rfl) rfl rfl rfl rfl ?_ ?_ 
          · intro hr hJ
            refine RL.call rfl (l01Own_any hud (by rw [htl]; omega)) ?_
            rintro v6 w6 ⟨ho6, hE6⟩
            have hs6 := hE6.size
            refine RL.nil ?_
            refine Fin.al hr hJ (.inr (hEd.trans hE6)) ?_
            refine AL.one (i := 6) (by kernel_rfl) rfl rfl ?_ 
            intro hr hJ
            refine RL.lit1 rfl sT29 rfl rfl (fun vx w7 hx7 hE7 hb7 => ?_)
            have ho7 := ho6.ext hE7
            have hs7 := hE7.size
            refine RL.nil ?_
            refine Fin.al hr hJ (.inr (hEd.trans (hE6.trans hE7))) ?_
            refine AL.one (i := 7) (by kernel_rfl) rfl rfl ?_ 
            intro hr hJ
            refine RL.app rfl sT29 ho7 hx7.sv (ints_one [_]) (by rw [ints_len, List.length_singleton]; rw [htl]; omega) (by rw [ints_len, List.length_singleton]; rw [htl]; omega) (by omega) rfl rfl (fun v8 w8 ho8 hg8 hn8 => ?_)
            replace ho8 : OV w8 w3.drew.heap.size 2 v8 (ints (cs.take i ++ [(d : Int)])) := by rw [← ints_app]; exact ho8
            have hEd8 : Ext w3.drew w8 := (hE6.trans hE7).grown hg8 (fun b hb => (ho7.lt b hb).1)
            have hs8 := hEd8.size
            refine RL.nil ?_
            refine Fin.al hr hJ (.inr (hEd.trans hEd8)) ?_
            refine AL.one (i := 8) (by kernel_rfl) rfl rfl ?_ 
            intro hr hJ
            refine RL.call rfl (l02First_any hm (cs.length - (i + 1)) w8 v8 (cs.take i ++ [(d : Int)]) w3.drew.heap.size (cuts_snoc (cuts_take hcu) (by omega)) ho8.sv (fun b hb => ho8.lt b hb) hs8 (by simp; omega)) ?_
            rintro r9 w9 ⟨v9, b9, xs, rfl, hs9', hi9, hh9, hE9⟩
            have hE19 := hEd.trans (hEd8.trans hE9)
            refine RL.nil ?_
            refine Fin.al hr hJ (.inr hE19) ?_
            refine AL.y 9 rfl rfl (by kernel_rfl) (by kernel_rfl) (by kernel_rfl) rfl (y_mov (by conv => lhs; whnf)) ?_
            refine AL.y 10 rfl rfl (by kernel_rfl) (by kernel_rfl) (by kernel_rfl) rfl (y_ext0 rfl) ?_
            refine AL.y 11 rfl rfl (by kernel_rfl) (by kernel_rfl) (by kernel_rfl) rfl (y_ext1 rfl) ?_
            refine AL.y 12 rfl rfl (by kernel_rfl) (by kernel_rfl) (by kernel_rfl) rfl (y_asg (by conv => lhs; whnf)) ?_
            refine AL.y 13 rfl rfl (by kernel_rfl) (by kernel_rfl) (by kernel_rfl) rfl (y_asg (v := .bool _) rfl) ?_
            refine AL.nil (by kernel_rfl) ?_
            refine Fin.next ?_
            refine CW.seq ?_
            refine CW.region ?_
            refine RL.y rfl (y_mov (v := .bool _) rfl) ?_
            refine RL.nil ?_
            refine Fin.next ?_
            refine CW.cond rfl rfl (fun h9 => ?_) (fun h9 => ?_)
            · with_reducible first | (replace h9 := deNF h9) | (replace h9 := of_decide_eq_true h9) | (replace h9 := of_decide_eq_false h9) | (replace h9 := deNT h9) | (replace h9 := deNN h9) | (replace h9 := bnT h9) | (replace h9 := bnF h9) | skip
              subst h9
              refine CW.seq ?_
              refine CW.region ?_
              refine RL.y rfl (y_mov (by conv => lhs; whnf)) ?_
              refine RL.y rfl (y_asg (by conv => lhs; whnf)) ?_
              refine RL.y rfl (y_asg rfl) ?_
              refine RL.nil ?_
              refine Fin.next ?_
              refine CW.ret ?_
              refine Fin.blockRet ?_
              refine Fin.thenRet ?_
              refine Fin.thenRet ?_
              refine Fin.blockRet ?_
              refine Fin.blockRet ?_
              refine Fin.thenRet ?_
              refine Fin.thenRet ?_
              refine Fin.blockRet ?_
              refine Fin.thenRet ?_
              refine Fin.ret2 rfl (by conv => lhs; whnf) (by conv => lhs; whnf) ?_
              exact ⟨_, rfl, _, _, xs, rfl, hs9', (fun b hb => by have := hi9 b hb; have := hE1.size; omega), .inl ⟨rfl, next_at hi haf hd1 hlt hno hh9.yes⟩, hE1.trans hE19⟩
            · with_reducible first | (replace h9 := deNF h9) | (replace h9 := of_decide_eq_true h9) | (replace h9 := of_decide_eq_false h9) | (replace h9 := deNT h9) | (replace h9 := deNN h9) | (replace h9 := bnT h9) | (replace h9 := bnF h9) | skip
              subst h9
              refine CW.skip ?_
              refine Fin.blockNormal ?_
              refine Fin.next ?_
              refine CW.region ?_
              refine RL.y rfl (y_mov (v := .int _ _) rfl) ?_
              refine RL.y rfl (y_add rfl rfl (IntWalk.i64_in _ (by omega))) ?_
              refine RL.y rfl (y_asg (v := .int _ _) rfl) ?_
              refine RL.nil ?_
              refine Fin.le ?_
              exact ⟨q.dp.toNat - (d + 1), by omega, d + 1, rfl, ⟨by omega, hlt⟩, ⟨rfl, rfl, rfl, rfl, trivial⟩, (fun e e1 e2 => by by_cases e3 : e = d; exact e3 ▸ hh9.no; exact hno e e1 (by omega)), hE19⟩
          · intro hr hJ
            refine RL.lit1 rfl sT29 rfl rfl (fun vx w6 hx6 hE6 hb6 => ?_)
            have hs6 := hE6.size
            refine RL.nil ?_
            refine Fin.al hr hJ (.inr (hEd.trans hE6)) ?_
            refine AL.one (i := 4) (by kernel_rfl) rfl rfl ?_ 
            intro hr hJ
            refine RL.call rfl (l01Own_any (hud.ext hE6) (by rw [htl]; omega)) ?_
            rintro v6 w7 ⟨ho7', hE7⟩
            have hs7 := hE7.size
            have ho7 := ho7'.mono hs6
            have hx7 := hx6.ext hE7
            refine RL.nil ?_
            refine Fin.al hr hJ (.inr (hEd.trans (hE6.trans hE7))) ?_
            refine AL.one (i := 7) (by kernel_rfl) rfl rfl ?_ 
            intro hr hJ
            refine RL.app rfl sT29 ho7 hx7.sv (ints_one [_]) (by rw [ints_len, List.length_singleton]; rw [htl]; omega) (by rw [ints_len, List.length_singleton]; rw [htl]; omega) (by omega) rfl rfl (fun v8 w8 ho8 hg8 hn8 => ?_)
            replace ho8 : OV w8 w3.drew.heap.size 2 v8 (ints (cs.take i ++ [(d : Int)])) := by rw [← ints_app]; exact ho8
            have hEd8 : Ext w3.drew w8 := (hE6.trans hE7).grown hg8 (fun b hb => (ho7.lt b hb).1)
            have hs8 := hEd8.size
            refine RL.nil ?_
            refine Fin.al hr hJ (.inr (hEd.trans hEd8)) ?_
            refine AL.one (i := 8) (by kernel_rfl) rfl rfl ?_ 
            intro hr hJ
            refine RL.call rfl (l02First_any hm (cs.length - (i + 1)) w8 v8 (cs.take i ++ [(d : Int)]) w3.drew.heap.size (cuts_snoc (cuts_take hcu) (by omega)) ho8.sv (fun b hb => ho8.lt b hb) hs8 (by simp; omega)) ?_
            rintro r9 w9 ⟨v9, b9, xs, rfl, hs9', hi9, hh9, hE9⟩
            have hE19 := hEd.trans (hEd8.trans hE9)
            refine RL.nil ?_
            refine Fin.al hr hJ (.inr hE19) ?_
            refine AL.y 9 rfl rfl (by kernel_rfl) (by kernel_rfl) (by kernel_rfl) rfl (y_mov (by conv => lhs; whnf)) ?_
            refine AL.y 10 rfl rfl (by kernel_rfl) (by kernel_rfl) (by kernel_rfl) rfl (y_ext0 rfl) ?_
            refine AL.y 11 rfl rfl (by kernel_rfl) (by kernel_rfl) (by kernel_rfl) rfl (y_ext1 rfl) ?_
            refine AL.y 12 rfl rfl (by kernel_rfl) (by kernel_rfl) (by kernel_rfl) rfl (y_asg (by conv => lhs; whnf)) ?_
            refine AL.y 13 rfl rfl (by kernel_rfl) (by kernel_rfl) (by kernel_rfl) rfl (y_asg (v := .bool _) rfl) ?_
            refine AL.nil (by kernel_rfl) ?_
            refine Fin.next ?_
            refine CW.seq ?_
            refine CW.region ?_
            refine RL.y rfl (y_mov (v := .bool _) rfl) ?_
            refine RL.nil ?_
            refine Fin.next ?_
            refine CW.cond rfl rfl (fun h9 => ?_) (fun h9 => ?_)
            · with_reducible first | (replace h9 := deNF h9) | (replace h9 := of_decide_eq_true h9) | (replace h9 := of_decide_eq_false h9) | (replace h9 := deNT h9) | (replace h9 := deNN h9) | (replace h9 := bnT h9) | (replace h9 := bnF h9) | skip
              subst h9
              refine CW.seq ?_
              refine CW.region ?_
              refine RL.y rfl (y_mov (by conv => lhs; whnf)) ?_
              refine RL.y rfl (y_asg (by conv => lhs; whnf)) ?_
              refine RL.y rfl (y_asg rfl) ?_
              refine RL.nil ?_
              refine Fin.next ?_
              refine CW.ret ?_
              refine Fin.blockRet ?_
              refine Fin.thenRet ?_
              refine Fin.thenRet ?_
              refine Fin.blockRet ?_
              refine Fin.blockRet ?_
              refine Fin.thenRet ?_
              refine Fin.thenRet ?_
              refine Fin.blockRet ?_
              refine Fin.thenRet ?_
              refine Fin.ret2 rfl (by conv => lhs; whnf) (by conv => lhs; whnf) ?_
              exact ⟨_, rfl, _, _, xs, rfl, hs9', (fun b hb => by have := hi9 b hb; have := hE1.size; omega), .inl ⟨rfl, next_at hi haf hd1 hlt hno hh9.yes⟩, hE1.trans hE19⟩
            · with_reducible first | (replace h9 := deNF h9) | (replace h9 := of_decide_eq_true h9) | (replace h9 := of_decide_eq_false h9) | (replace h9 := deNT h9) | (replace h9 := deNN h9) | (replace h9 := bnT h9) | (replace h9 := bnF h9) | skip
              subst h9
              refine CW.skip ?_
              refine Fin.blockNormal ?_
              refine Fin.next ?_
              refine CW.region ?_
              refine RL.y rfl (y_mov (v := .int _ _) rfl) ?_
              refine RL.y rfl (y_add rfl rfl (IntWalk.i64_in _ (by omega))) ?_
              refine RL.y rfl (y_asg (v := .int _ _) rfl) ?_
              refine RL.nil ?_
              refine Fin.le ?_
              exact ⟨q.dp.toNat - (d + 1), by omega, d + 1, rfl, ⟨by omega, hlt⟩, ⟨rfl, rfl, rfl, rfl, trivial⟩, (fun e e1 e2 => by by_cases e3 : e = d; exact e3 ▸ hh9.no; exact hno e e1 (by omega)), hE19⟩
        · with_reducible first | (replace hcd := deNF hcd) | (replace hcd := of_decide_eq_true hcd) | (replace hcd := of_decide_eq_false hcd) | (replace hcd := deNT hcd) | (replace hcd := deNN hcd) | (replace hcd := bnT hcd) | (replace hcd := bnF hcd) | skip
          obtain rfl : d = q.dp.toNat := by omega
          refine CW.exit ?_
          refine Fin.thenExit ?_
          refine Fin.thenExit ?_
          refine Fin.blockHit ?_
          refine Fin.blockNormal ?_
          refine Fin.next ?_
          refine CW.region ?_
          refine RL.y rfl (y_mov (v := .int _ _) rfl) ?_
          refine RL.y rfl (y_sub rfl rfl (IntWalk.i64_in _ (by omega))) ?_
          refine RL.y rfl (y_asg (v := .int _ _) rfl) ?_
          refine RL.nil ?_
          refine Fin.le ?_
          exact ⟨i, by omega, i, rfl, by omega, ⟨rfl, rfl, rfl, trivial⟩, next_no hi haf hno, hE3⟩
    · with_reducible first | (replace hc0 := deNF hc0) | (replace hc0 := of_decide_eq_true hc0) | (replace hc0 := of_decide_eq_false hc0) | (replace hc0 := deNT hc0) | (replace hc0 := deNN hc0) | (replace hc0 := bnT hc0) | (replace hc0 := bnF hc0) | skip
      obtain rfl : m = 0 := by omega
      refine CW.exit ?_
      refine Fin.thenExit ?_
      refine Fin.thenExit ?_
      refine Fin.blockHit ?_
      refine Fin.next ?_
      refine CW.seq ?_
      refine CW.region ?_
      refine RL.y rfl (y_asg rfl) ?_
      refine RL.y rfl (y_asg rfl) ?_
      refine RL.nil ?_
      refine Fin.next ?_
      refine CW.ret ?_
      refine Fin.ret2 rfl (by conv => lhs; whnf) (by conv => lhs; whnf) ?_
      exact ⟨_, rfl, _, _, [], rfl, SV.nil _, inb_nil, .inr ⟨rfl, by simpa using haf, by simp⟩, hE1.trans hE2⟩

theorem ex_take {keys : List (List Int)} {i : Nat} {x : Int} {k : Nat} (h : k < keys.length) : (∃ r ∈ keys.take (k + 1), r.getD i 0 = x) ↔ (∃ r ∈ keys.take k, r.getD i 0 = x) ∨ keys[k].getD i 0 = x := by
  rw [List.take_succ_eq_append_getElem h]
  constructor
  · rintro ⟨r, hr, e⟩
    rcases List.mem_append.1 hr with hr | hr
    · exact .inl ⟨r, hr, e⟩
    · obtain rfl : r = keys[k] := by simpa using hr
      exact .inr e
  · rintro (⟨r, hr, e⟩ | e)
    · exact ⟨r, List.mem_append.2 (.inl hr), e⟩
    · exact ⟨_, List.mem_append.2 (.inr (List.mem_singleton.2 rfl)), e⟩
def hulR (q : Mk) (keys : List (List Int)) (i : Nat) (k : Nat) : List Int := idxs (fun d => decide (∃ r ∈ keys, r.getD i 0 = (d : Int))) k
theorem hulR_yes {q : Mk} {keys : List (List Int)} {i d : Nat} (h : ∃ r ∈ keys, r.getD i 0 = (d : Int)) : hulR q keys i (d + 1) = hulR q keys i d ++ [(d : Int)] := idxs_yes (decide_eq_true h)
theorem hulR_no {q : Mk} {keys : List (List Int)} {i d : Nat} (h : ¬ ∃ r ∈ keys, r.getD i 0 = (d : Int)) : hulR q keys i (d + 1) = hulR q keys i d := idxs_no (decide_eq_false h)

theorem l04Hull_any {w : World} {q : Mk} {u : Value} {keys : List (List Int)} (hm : mkOk q) (hu : RdSS w u keys) (hk : ∀ k ∈ keys, (k.length : Int) = q.ch) :
    Does Try.prog 76 #[mkA q, u] w (fun v' w' => OwL w' w.heap.size w'.heap.size v' (hul q keys q.ch.toNat) ∧ Ext w w') := by
  obtain ⟨us, hrd⟩ := hu
  have m1 := hm.1
  have m2 := hm.2.1
  have hkl := hrd.le
  refine enter Try.func76 rfl 54 Try.ntmps76 rfl (by kernel_rfl) ?_
  refine CW.seq ?_
  refine CW.region ?_
  refine RL.box (cs := [.int .i64 q.ch, .int .i64 q.dp, .int .i64 q.st, .int .i64 q.sm, .int .i64 q.le]) rfl rfl rfl (fun w1 hV hE1 => ?_)
  refine RL.alloc rfl ze28 (fun w2 hX hE2 => ?_)
  have hl1 := hV.lt
  have hl2 := hX.lt
  have hE02 := hE1.trans hE2
  refine RL.nil ?_
  refine Fin.next ?_
  refine CW.seq ?_
  refine CW.region ?_
  refine RL.lit0 rfl sT26 (fun vo w3 ho3 hE3 hb3 => ?_)
  refine RL.y rfl (y_asg (by conv => lhs; whnf)) ?_
  refine RL.nil ?_
  refine Fin.next ?_
  refine CW.seq ?_
  refine CW.seq ?_
  refine CW.region ?_
  refine RL.y rfl (y_asg rfl) ?_
  refine RL.nil ?_
  refine Fin.next ?_
  refine CW.block ?_
  refine CW.loop (fun m E w' => ∃ (i : Nat) (vo : Value) (cv : List Value) (U : Nat), m = q.ch.toNat - i ∧ i ≤ q.ch.toNat ∧ agrees E [(1, u), (2, .pointer (some ⟨w.heap.size, 0, none⟩)), (4, .pointer (some ⟨w1.heap.size, 0, none⟩)), (5, vo), (6, .int .i64 (i : Int))] ∧ OwC ints 2 29 w' w2.heap.size U vo cv (hul q keys i) ∧ Ext w2 w') _ (⟨0, vo, [], _, rfl, Nat.zero_le _, ⟨rfl, rfl, rfl, rfl, rfl, trivial⟩, OwC.nil ho3, hE3⟩) ?_
  · rintro m E w4 ⟨i, vo, cv, U, rfl, hi, hag, ho4, hE4⟩
    refine CW.re _ hag rfl ?_
    have hdl := ho4.2.1
    rw [hul_len] at hdl
    have hU := ho4.1.2.1
    refine CW.seq ?_
    refine CW.seq ?_
    refine CW.region ?_
    refine RL.y rfl (y_mov (v := .int _ _) rfl) ?_
    refine RL.y rfl (y_fa fa25_0 rfl rfl) ?_
    refine RL.y rfl (y_loadv sc2 (eqw ((hV.ext hE2).ext hE4)) rfl rfl) ?_
    refine RL.y rfl (y_lt rfl rfl) ?_
    refine RL.nil ?_
    refine Fin.next ?_
    refine CW.cond rfl rfl (fun hci => ?_) (fun hci => ?_)
    · with_reducible first | (replace hci := deNF hci) | (replace hci := of_decide_eq_true hci) | (replace hci := of_decide_eq_false hci) | (replace hci := deNT hci) | (replace hci := deNN hci) | (replace hci := bnT hci) | (replace hci := bnF hci) | skip
      have hlti : i < q.ch.toNat := by omega
      refine CW.skip ?_
      refine Fin.next ?_
      refine CW.seq ?_
      refine CW.block ?_
      refine CW.seq ?_
      refine CW.region ?_
      refine RL.lit0 rfl sT29 (fun vi w5 hi5 hE5 hb5 => ?_)
      refine RL.y rfl (y_asg (by conv => lhs; whnf)) ?_
      refine RL.nil ?_
      refine Fin.next ?_
      refine CW.seq ?_
      refine CW.seq ?_
      refine CW.region ?_
      refine RL.y rfl (y_asg rfl) ?_
      refine RL.nil ?_
      refine Fin.next ?_
      refine CW.block ?_
      refine CW.loop (fun m E w' => ∃ (k : Nat) (vi : Value), m = q.dp.toNat - k ∧ k ≤ q.dp.toNat ∧ agrees E [(1, u), (2, .pointer (some ⟨w.heap.size, 0, none⟩)), (4, .pointer (some ⟨w1.heap.size, 0, none⟩)), (5, vo), (6, .int .i64 (i : Int)), (7, vi), (8, .int .i64 (k : Int))] ∧ OV w' w4.heap.size 2 vi (ints (hulR q keys i k)) ∧ Ext w4 w') _ (⟨0, vi, rfl, Nat.zero_le _, ⟨rfl, rfl, rfl, rfl, rfl, rfl, rfl, trivial⟩, hi5, hE5⟩) ?_
      · rintro m E w6 ⟨k, vi, rfl, hk6, hag, hi6, hE6⟩
        refine CW.re _ hag rfl ?_
        have hE46 := hE4.trans hE6
        have hwl : (hulR q keys i k).length ≤ k := idxs_le _ _
        refine CW.seq ?_
        refine CW.seq ?_
        refine CW.region ?_
        refine RL.y rfl (y_mov (v := .int _ _) rfl) ?_
        refine RL.y rfl (y_fa fa25_1 rfl rfl) ?_
        refine RL.y rfl (y_loadv sc2 (eqw ((hV.ext hE2).ext hE46)) rfl rfl) ?_
        refine RL.y rfl (y_lt rfl rfl) ?_
        refine RL.nil ?_
        refine Fin.next ?_
        refine CW.cond rfl rfl (fun hck => ?_) (fun hck => ?_)
        · with_reducible first | (replace hck := deNF hck) | (replace hck := of_decide_eq_true hck) | (replace hck := of_decide_eq_false hck) | (replace hck := deNT hck) | (replace hck := deNN hck) | (replace hck := bnT hck) | (replace hck := bnF hck) | skip
          refine CW.skip ?_
          refine Fin.next ?_
          refine CW.seq ?_
          refine CW.block ?_
          refine CW.seq ?_
          refine CW.region ?_
          refine RL.y rfl (y_asg rfl) ?_
          refine RL.nil ?_
          refine Fin.next ?_
          refine CW.seq ?_
          refine CW.seq ?_
          refine CW.region ?_
          refine RL.y rfl (y_asg rfl) ?_
          refine RL.nil ?_
          refine Fin.next ?_
          refine CW.block ?_
          refine CW.loop (fun m E w' => ∃ (e : Nat), m = keys.length - e ∧ e ≤ keys.length ∧ agrees E [(1, u), (2, .pointer (some ⟨w.heap.size, 0, none⟩)), (4, .pointer (some ⟨w1.heap.size, 0, none⟩)), (5, vo), (6, .int .i64 (i : Int)), (7, vi), (8, .int .i64 (k : Int)), (9, .bool (decide (∃ r ∈ keys.take e, r.getD i 0 = (k : Int)))), (10, .int .i64 (e : Int))] ∧ w' = w6) _ (⟨0, rfl, Nat.zero_le _, ⟨rfl, rfl, rfl, rfl, rfl, rfl, rfl, congrArg Value.bool (Eq.symm (decide_eq_false (by rintro ⟨r, hr, _⟩; simp at hr))), rfl, trivial⟩, rfl⟩) ?_
          · rintro m E w7 ⟨e, rfl, he, hag, rfl⟩
            refine CW.re _ hag rfl ?_
            have hrd7 := hrd.ext (hE02.trans hE46)
            refine CW.seq ?_
            refine CW.seq ?_
            refine CW.region ?_
            refine RL.y rfl (y_mov (v := .int _ _) rfl) ?_
            refine RL.y rfl (y_mov (by conv => lhs; whnf)) ?_
            refine RL.y rfl (y_len sT26 hrd7.1 hrd7.2.1 rfl) ?_
            refine RL.y rfl (y_lt rfl rfl) ?_
            refine RL.nil ?_
            refine Fin.next ?_
            refine CW.cond rfl rfl (fun hce => ?_) (fun hce => ?_)
            · with_reducible first | (replace hce := deNF hce) | (replace hce := of_decide_eq_true hce) | (replace hce := of_decide_eq_false hce) | (replace hce := deNT hce) | (replace hce := deNN hce) | (replace hce := bnT hce) | (replace hce := bnF hce) | skip
              have hlte : e < keys.length := by omega
              have hkr := hk _ (List.getElem_mem hlte)
              have hilt : i < keys[e].length := by omega
              refine CW.skip ?_
              refine Fin.next ?_
              refine CW.seq ?_
              refine CW.block ?_
              refine CW.region ?_
              refine RL.y rfl (y_mov (v := .bool _) rfl) ?_
              refine RL.y rfl (y_mov (v := .bool _) rfl) ?_
              refine RL.split (t := 32) rfl rfl (fun h7 => ?_) (fun h7 => ?_)
              · with_reducible first | (replace h7 := deNF h7) | (replace h7 := of_decide_eq_true h7) | (replace h7 := of_decide_eq_false h7) | (replace h7 := deNT h7) | (replace h7 := deNN h7) | (replace h7 := bnT h7) | (replace h7 := bnF h7) | skip
                have h8 : ∃ r ∈ keys.take (e + 1), r.getD i 0 = (k : Int) := (ex_take hlte).2 (.inl h7)
                refine RL.pass (t := 32) rfl rfl rfl rfl ?_
                refine RL.pass (t := 32) rfl rfl rfl rfl ?_
                refine RL.pass (t := 32) rfl rfl rfl rfl ?_
                refine RL.pass (t := 32) rfl rfl rfl rfl ?_
                refine RL.pass (t := 32) rfl rfl rfl rfl ?_
                refine RL.pass (t := 32) rfl rfl rfl rfl ?_
                refine RL.pass (t := 32) rfl rfl rfl rfl ?_
                refine RL.pass (t := 32) rfl rfl rfl rfl ?_
                refine RL.pass (t := 32) rfl rfl rfl rfl ?_
                refine RL.y rfl (y_pickT (v := .bool _) rfl rfl) ?_
                refine RL.y rfl (y_asg (v := .bool _) rfl) ?_
                refine RL.nil ?_
                refine Fin.blockNormal ?_
                refine Fin.next ?_
                refine CW.region ?_
                refine RL.y rfl (y_mov (v := .int _ _) rfl) ?_
                refine RL.y rfl (y_add rfl rfl (IntWalk.i64_in _ (by omega))) ?_
                refine RL.y rfl (y_asg (v := .int _ _) rfl) ?_
                refine RL.nil ?_
                refine Fin.le ?_
                exact ⟨keys.length - (e + 1), by omega, e + 1, rfl, hlte, ⟨rfl, rfl, rfl, rfl, rfl, rfl, rfl, congrArg Value.bool (Eq.symm (decide_eq_true h8)), rfl, trivial⟩, rfl⟩
              · with_reducible first | (replace h7 := deNF h7) | (replace h7 := of_decide_eq_true h7) | (replace h7 := of_decide_eq_false h7) | (replace h7 := deNT h7) | (replace h7 := deNN h7) | (replace h7 := bnT h7) | (replace h7 := bnF h7) | skip
                refine RL.take (t := 32) rfl rfl rfl ?_
                refine RL.y rfl (y_mov (by conv => lhs; whnf)) ?_
                refine RL.take (t := 32) rfl rfl rfl ?_
                refine RL.y rfl (y_mov (v := .int _ _) rfl) ?_
                refine RL.take (t := 32) rfl rfl rfl ?_
                refine RL.y rfl (y_ixa sT26 (eqw (hrd7.1)) (k := e) (hrd7.lt hlte) rfl rfl) ?_
                refine RL.take (t := 32) rfl rfl rfl ?_
                refine RL.y rfl (y_load sc29 (eqw (hrd7.1)) (hrd7.at hlte) rfl) ?_
                refine RL.take (t := 32) rfl rfl rfl ?_
                refine RL.y rfl (y_mov (v := .int _ _) rfl) ?_
                refine RL.take (t := 32) rfl rfl rfl ?_
                refine RL.y rfl (y_ixa sT29 (eqw (hrd7.row hlte)) (k := i) (ints_lt hilt) rfl rfl) ?_
                refine RL.take (t := 32) rfl rfl rfl ?_
                refine RL.y rfl (y_load sc2 (eqw (hrd7.row hlte)) (ints_at hilt) rfl) ?_
                refine RL.take (t := 32) rfl rfl rfl ?_
                refine RL.y rfl (y_mov (v := .int _ _) rfl) ?_
                refine RL.take (t := 32) rfl rfl rfl ?_
                refine RL.y rfl (y_eq rfl rfl) ?_
                refine RL.y rfl (y_pickF (v := .bool _) rfl rfl) ?_
                refine RL.y rfl (y_asg (v := .bool _) rfl) ?_
                refine RL.nil ?_
                refine Fin.blockNormal ?_
                refine Fin.next ?_
                refine CW.region ?_
                refine RL.y rfl (y_mov (v := .int _ _) rfl) ?_
                refine RL.y rfl (y_add rfl rfl (IntWalk.i64_in _ (by omega))) ?_
                refine RL.y rfl (y_asg (v := .int _ _) rfl) ?_
                refine RL.nil ?_
                refine Fin.le ?_
                exact ⟨keys.length - (e + 1), by omega, e + 1, rfl, hlte, ⟨rfl, rfl, rfl, rfl, rfl, rfl, rfl, bD (Iff.symm ((ex_take hlte).trans ⟨fun h => by rcases h with h | h; exact absurd h h7; rwa [getD_lt hilt] at h, fun h => .inr (by rw [getD_lt hilt]; exact h)⟩)), rfl, trivial⟩, rfl⟩
            · with_reducible first | (replace hce := deNF hce) | (replace hce := of_decide_eq_true hce) | (replace hce := of_decide_eq_false hce) | (replace hce := deNT hce) | (replace hce := deNN hce) | (replace hce := bnT hce) | (replace hce := bnF hce) | skip
              obtain rfl : e = keys.length := by omega
              rw [List.take_length]
              refine CW.exit ?_
              refine Fin.thenExit ?_
              refine Fin.thenExit ?_
              refine Fin.blockHit ?_
              refine Fin.next ?_
              refine CW.seq ?_
              refine CW.region ?_
              refine RL.y rfl (y_mov (v := .bool _) rfl) ?_
              refine RL.nil ?_
              refine Fin.next ?_
              refine CW.cond rfl rfl (fun h9 => ?_) (fun h9 => ?_)
              · with_reducible first | (replace h9 := deNF h9) | (replace h9 := of_decide_eq_true h9) | (replace h9 := of_decide_eq_false h9) | (replace h9 := deNT h9) | (replace h9 := deNN h9) | (replace h9 := bnT h9) | (replace h9 := bnF h9) | skip
                refine CW.region ?_
                refine RL.y rfl (y_mov (by conv => lhs; whnf)) ?_
                refine RL.y rfl (y_mov (v := .int _ _) rfl) ?_
                refine RL.app1i rfl rfl sT29 (by omega) hi6 (by omega) hE6.size rfl (fun _ => rfl) (fun u v8 w8 ho8 hg8 hn8 => ?_)
                refine RL.y rfl (y_asg (by conv => lhs; whnf)) ?_
                refine RL.nil ?_
                refine Fin.blockNormal ?_
                refine Fin.next ?_
                refine CW.region ?_
                refine RL.y rfl (y_mov (v := .int _ _) rfl) ?_
                refine RL.y rfl (y_add rfl rfl (IntWalk.i64_in _ (by omega))) ?_
                refine RL.y rfl (y_asg (v := .int _ _) rfl) ?_
                refine RL.nil ?_
                refine Fin.le ?_
                exact ⟨q.dp.toNat - (k + 1), by omega, k + 1, v8, rfl, by omega, ⟨rfl, rfl, rfl, rfl, rfl, rfl, rfl, trivial⟩, by rw [hulR_yes h9]; exact ho8, hE6.grown hg8 (fun b hb => (hi6.lt b hb).1)⟩
              · with_reducible first | (replace h9 := deNF h9) | (replace h9 := of_decide_eq_true h9) | (replace h9 := of_decide_eq_false h9) | (replace h9 := deNT h9) | (replace h9 := deNN h9) | (replace h9 := bnT h9) | (replace h9 := bnF h9) | skip
                refine CW.skip ?_
                refine Fin.blockNormal ?_
                refine Fin.next ?_
                refine CW.region ?_
                refine RL.y rfl (y_mov (v := .int _ _) rfl) ?_
                refine RL.y rfl (y_add rfl rfl (IntWalk.i64_in _ (by omega))) ?_
                refine RL.y rfl (y_asg (v := .int _ _) rfl) ?_
                refine RL.nil ?_
                refine Fin.le ?_
                exact ⟨q.dp.toNat - (k + 1), by omega, k + 1, vi, rfl, by omega, ⟨rfl, rfl, rfl, rfl, rfl, rfl, rfl, trivial⟩, by rw [hulR_no h9]; exact hi6, hE6⟩
        · with_reducible first | (replace hck := deNF hck) | (replace hck := of_decide_eq_true hck) | (replace hck := of_decide_eq_false hck) | (replace hck := deNT hck) | (replace hck := deNN hck) | (replace hck := bnT hck) | (replace hck := bnF hck) | skip
          obtain rfl : k = q.dp.toNat := by omega
          have ho46 := ho4.ext hE6
          refine CW.exit ?_
          refine Fin.thenExit ?_
          refine Fin.thenExit ?_
          refine Fin.blockHit ?_
          refine Fin.next ?_
          refine CW.region ?_
          refine RL.y rfl (y_mov (by conv => lhs; whnf)) ?_
          refine RL.y rfl (y_mov (by conv => lhs; whnf)) ?_
          refine RL.app1 rfl rfl sT26 (by omega) ho46.1.ov (by omega) (by have := hE46.size; omega) rfl (slice_one hi6.sv) (fun _ => rfl) (fun u v8 w8 ho8 hg8 hn8 => ?_)
          have hp := ho46.push (hi6.mono (by have := hE4.size; omega)) (fun b hb => by have := (hi6.lt b hb).1; omega) ho8 hg8 hn8
          rw [hulR, ← hul_snoc] at hp
          refine RL.y rfl (y_asg (by conv => lhs; whnf)) ?_
          refine RL.nil ?_
          refine Fin.blockNormal ?_
          refine Fin.next ?_
          refine CW.region ?_
          refine RL.y rfl (y_mov (v := .int _ _) rfl) ?_
          refine RL.y rfl (y_add rfl rfl (IntWalk.i64_in _ (by omega))) ?_
          refine RL.y rfl (y_asg (v := .int _ _) rfl) ?_
          refine RL.nil ?_
          refine Fin.le ?_
          exact ⟨q.ch.toNat - (i + 1), by omega, i + 1, v8, _, _, rfl, hlti, ⟨rfl, rfl, rfl, rfl, rfl, trivial⟩, hp, hE46.grown hg8 (fun b hb => (ho46.1.lt b hb).1)⟩
    · with_reducible first | (replace hci := deNF hci) | (replace hci := of_decide_eq_true hci) | (replace hci := of_decide_eq_false hci) | (replace hci := deNT hci) | (replace hci := deNN hci) | (replace hci := bnT hci) | (replace hci := bnF hci) | skip
      obtain rfl : i = q.ch.toNat := by omega
      refine CW.exit ?_
      refine Fin.thenExit ?_
      refine Fin.thenExit ?_
      refine Fin.blockHit ?_
      refine Fin.next ?_
      refine CW.seq ?_
      refine CW.region ?_
      refine RL.y rfl (y_mov (by conv => lhs; whnf)) ?_
      refine RL.y rfl (y_build bd28 rfl (fill_one (slice_one ho4.1.sv) rfl rfl fill_nil)) ?_
      refine RL.stores ag28 ((hX.ext hE4)) rfl rfl rfl rfl ((show ([vo] : List Value).all (·.oneCell') = true by simp only [List.all_cons, List.all_nil, Bool.and_true]; exact slice_one ho4.1.sv)) (fun w6 hX6 hg6 => ?_)
      replace hX6 : VR w6 w1.heap.size [vo] := hX6
      have hs6 := hg6.size
      have hs4 := hE4.size
      have hM6 : Mod w1.heap.size (w1.heap.size + 1) w4 w6 := grown_mod hg6 (fun k hk => by simp only [Option.some.injEq] at hk; omega)
      have ho6 : OwSS w6 w2.heap.size U vo _ := ⟨cv, ho4.mod hM6 (by omega)⟩
      refine RL.nil ?_
      refine Fin.next ?_
      refine CW.ret ?_
      refine Fin.retc rfl ag28 rfl rfl (hX6) ?_
      exact ⟨_, rfl, ⟨vo, rfl, OwN.wide ho6 (by omega) (by omega) (Nat.le_refl _)⟩, (hE02.trans hE4).then_mod hM6 (by have := hE1.size; omega)⟩

def kdC (q : Mk) (cs : List Int) : Int := if ¬ mkOk q then 1 else if key q cs then 0 else 2
theorem kdC_zero {q : Mk} {cs : List Int} : kdC q cs = 0 ↔ mkOk q ∧ key q cs := by
  unfold kdC
  by_cases h : mkOk q
  · rw [if_neg (not_not_intro h)]
    by_cases h2 : key q cs
    · rw [if_pos h2]; exact ⟨fun _ => ⟨h, h2⟩, fun _ => rfl⟩
    · rw [if_neg h2]; exact ⟨fun e => by omega, fun e => absurd e.2 h2⟩
  · rw [if_pos h]; exact ⟨fun e => by omega, fun e => absurd e.1 h⟩
theorem nb_kd {q : Mk} {cs : List Int} {a t : Int} (h : kdC q cs ≠ 0) : kdC q cs = nbC q cs a t := by
  unfold kdC at h ⊢
  unfold nbC
  by_cases h1 : mkOk q
  · rw [if_neg (not_not_intro h1)] at h ⊢
    rw [if_neg (not_not_intro h1)]
    by_cases h2 : key q cs
    · rw [if_pos h2] at h; exact absurd rfl h
    · rw [if_neg h2, if_neg (fun hh => h2 hh.2)]
  · rw [if_pos h1, if_pos h1]
theorem kdCode_any {w : World} {q : Mk} {v : Value} {cs : List Int} (hv : SI w v cs) : Does Try.prog 73 #[mkA q, v] w (fun r w' => r = .int .i64 (kdC q cs) ∧ Ext w w') := l02Code_any hv
def okN (cs : List Int) (a t : Int) : List Int → Bool := alw (fun i d => 0 < cnt [d] (cs.getD i 0) (a + 1).toNat t) 0
theorem okN_iff {cs k : List Int} {a t : Int} : okN cs a t k = true ↔ ∀ i, i < k.length → 0 ≤ i → 0 < cnt [k.getD i 0] (cs.getD i 0) (a + 1).toNat t := decide_eq_true_iff
theorem nbN_keys {q : Mk} {cs : List Int} {a t : Int} : nbN q cs a t = ((keysF q q.ch.toNat []).filter (okN cs a t)).length := cf_keys _ [] (bgn_nil q)

theorem specWornNb_any {w : World} {q : Mk} {v : Value} {cs : List Int} {a t : Int} (hv : SI w v cs) :
    Does Try.prog 39 #[mkA q, v, .int .i64 a, .int .i64 t] w (fun r w' => r = .tuple #[.int .i64 (nbV q cs a t), .int .i64 (nbC q cs a t)] ∧ Ext w w') := by
  have hvl := SI.le hv
  refine enter Try.func39 rfl 57 Try.ntmps39 rfl (by kernel_rfl) ?_
  refine CW.seq ?_
  refine CW.region ?_
  refine RL.box (cs := [.int .i64 q.ch, .int .i64 q.dp, .int .i64 q.st, .int .i64 q.sm, .int .i64 q.le]) rfl rfl rfl (fun w1 hV hE1 => ?_)
  refine RL.y rfl (y_asg rfl) ?_
  refine RL.y rfl (y_asg rfl) ?_
  refine RL.nil ?_
  refine Fin.next ?_
  refine CW.seq ?_
  refine CW.region ?_
  refine RL.y rfl (y_loads ag25 rfl (eqw (hV)) rfl) ?_
  refine RL.y rfl (y_mov (by conv => lhs; whnf)) ?_
  refine RL.call rfl (kdCode_any (hv.ext hE1)) ?_
  rintro r w2 ⟨rfl, hE2⟩
  refine RL.y rfl (y_asg (v := .int _ _) rfl) ?_
  refine RL.nil ?_
  refine Fin.next ?_
  refine CW.cut (fun E w' => agrees E [(1, v), (2, .int .i64 a), (3, .int .i64 t), (4, .pointer (some ⟨w.heap.size, 0, none⟩)), (10, .int .i64 (nbC q cs a t))] ∧ w2 = w') ?_ ?_
  · refine CW.seq ?_
    refine CW.region ?_
    refine RL.y rfl (y_mov (v := .int _ _) rfl) ?_
    refine RL.y rfl (y_eq rfl rfl) ?_
    refine RL.y rfl (y_mov (v := .bool _) rfl) ?_
    refine RL.split (t := 21) rfl rfl (fun h1 => ?_) (fun h1 => ?_)
    · with_reducible first | (replace h1 := deNF h1) | (replace h1 := of_decide_eq_true h1) | (replace h1 := of_decide_eq_false h1) | (replace h1 := deNT h1) | (replace h1 := deNN h1) | (replace h1 := bnT h1) | (replace h1 := bnF h1) | skip
      obtain ⟨h1a, h1b⟩ := kdC_zero.1 h1
      refine RL.take (t := 21) rfl rfl rfl ?_
      refine RL.y rfl (y_mov (v := .int _ _) rfl) ?_
      refine RL.take (t := 21) rfl rfl rfl ?_
      refine RL.y rfl (y_mov (v := .int _ _) rfl) ?_
      refine RL.take (t := 21) rfl rfl rfl ?_
      refine RL.call rfl (l08Numbers_any) ?_
      rintro r w3 ⟨rfl, rfl⟩
      refine RL.take (t := 21) rfl rfl rfl ?_
      refine RL.y rfl (y_not rfl) ?_
      refine RL.y rfl (y_pickT (v := .bool _) rfl rfl) ?_
      refine RL.nil ?_
      refine Fin.next ?_
      refine CW.cond rfl rfl (fun h2 => ?_) (fun h2 => ?_)
      · with_reducible first | (replace h2 := deNF h2) | (replace h2 := of_decide_eq_true h2) | (replace h2 := of_decide_eq_false h2) | (replace h2 := deNT h2) | (replace h2 := deNN h2) | (replace h2 := bnT h2) | (replace h2 := bnF h2) | skip
        refine CW.region ?_
        refine RL.y rfl (y_asg rfl) ?_
        refine RL.nil ?_
        refine Fin.le ?_
        exact ⟨⟨rfl, rfl, rfl, rfl, by unfold nbC; rw [if_neg (not_not_intro h1a), if_neg (fun h => h2 h.1)]; rfl, trivial⟩, rfl⟩
      · with_reducible first | (replace h2 := deNF h2) | (replace h2 := of_decide_eq_true h2) | (replace h2 := of_decide_eq_false h2) | (replace h2 := deNT h2) | (replace h2 := deNN h2) | (replace h2 := bnT h2) | (replace h2 := bnF h2) | skip
        refine CW.skip ?_
        refine Fin.le ?_
        exact ⟨⟨rfl, rfl, rfl, rfl, by unfold nbC; rw [if_neg (not_not_intro h1a), if_pos ⟨h2, h1b⟩, h1]; rfl, trivial⟩, rfl⟩
    · with_reducible first | (replace h1 := deNF h1) | (replace h1 := of_decide_eq_true h1) | (replace h1 := of_decide_eq_false h1) | (replace h1 := deNT h1) | (replace h1 := deNN h1) | (replace h1 := bnT h1) | (replace h1 := bnF h1) | skip
      refine RL.pass (t := 21) rfl rfl rfl rfl ?_
      refine RL.pass (t := 21) rfl rfl rfl rfl ?_
      refine RL.pass (t := 21) rfl rfl rfl rfl ?_
      refine RL.pass (t := 21) rfl rfl rfl rfl ?_
      refine RL.y rfl (y_pickF (v := .bool _) rfl rfl) ?_
      refine RL.nil ?_
      refine Fin.next ?_
      refine CW.condF rfl rfl ?_
      refine CW.skip ?_
      refine Fin.le ?_
      exact ⟨⟨rfl, rfl, rfl, rfl, congrArg (Value.int .i64) (nb_kd h1), trivial⟩, rfl⟩
  · rintro E w3 ⟨hag, rfl⟩
    refine CW.re _ hag rfl ?_
    have hE02 := hE1.trans hE2
    refine CW.seq ?_
    refine CW.seq ?_
    refine CW.region ?_
    refine RL.y rfl (y_mov (v := .int _ _) rfl) ?_
    refine RL.y rfl (y_ne rfl rfl) ?_
    refine RL.nil ?_
    refine Fin.next ?_
    refine CW.cond rfl rfl (fun h1 => ?_) (fun h1 => ?_)
    · with_reducible first | (replace h1 := deNF h1) | (replace h1 := of_decide_eq_true h1) | (replace h1 := of_decide_eq_false h1) | (replace h1 := deNT h1) | (replace h1 := deNN h1) | (replace h1 := bnT h1) | (replace h1 := bnF h1) | skip
      refine CW.seq ?_
      refine CW.region ?_
      refine RL.y rfl (y_mov (v := .int _ _) rfl) ?_
      refine RL.y rfl (y_asg rfl) ?_
      refine RL.y rfl (y_asg (v := .int _ _) rfl) ?_
      refine RL.nil ?_
      refine Fin.next ?_
      refine CW.ret ?_
      refine Fin.thenRet ?_
      refine Fin.ret2 rfl (by conv => lhs; whnf) (by conv => lhs; whnf) ?_
      exact ⟨_, rfl, by unfold nbV; rw [if_neg h1], hE02⟩
    · with_reducible first | (replace h1 := deNF h1) | (replace h1 := of_decide_eq_true h1) | (replace h1 := of_decide_eq_false h1) | (replace h1 := deNT h1) | (replace h1 := deNN h1) | (replace h1 := bnT h1) | (replace h1 := bnF h1) | skip
      obtain ⟨hm, hn, hk⟩ := nbC_zero.1 h1
      have hkl := hk.1
      have m1 := hm.1
      have m2 := hm.2.1
      have hs8 : sm8 cs := fun x hx => by have := hk.2.1 x hx; omega
      have hp8 := pow8 hm
      have hnb : nbN q cs a t ≤ 8 ^ q.ch.toNat := cf_le (by omega) _ _
      refine CW.skip ?_
      refine Fin.next ?_
      refine CW.seq ?_
      refine CW.region ?_
      refine RL.y rfl (y_asg rfl) ?_
      refine RL.nil ?_
      refine Fin.next ?_
      refine CW.seq ?_
      refine CW.region ?_
      refine RL.y rfl (y_loads ag25 rfl (eqw (hV.ext hE2)) rfl) ?_
      refine RL.call rfl (l02First_any hm q.ch.toNat w2 (.slice none 0 0) [] 0 (fun x hx => by simp at hx) (SV.nil _) inb_nil (Nat.zero_le _) (by simp; omega)) ?_
      rintro r w3 ⟨v3, b3, xs3, rfl, hs3, -, hh3, hE3⟩
      refine RL.y rfl (y_mov (by conv => lhs; whnf)) ?_
      refine RL.y rfl (y_ext0 rfl) ?_
      refine RL.y rfl (y_ext1 rfl) ?_
      refine RL.y rfl (y_asg (by conv => lhs; whnf)) ?_
      refine RL.y rfl (y_asg (v := .bool _) rfl) ?_
      refine RL.nil ?_
      refine Fin.next ?_
      refine CW.seq ?_
      refine CW.block ?_
      refine CW.loop (fun m E w' => ∃ (rest : List (List Int)) (v1 : Value) (b : Bool) (xs : List Int) (c : Nat), m = rest.length ∧ agrees E [(1, v), (2, .int .i64 a), (3, .int .i64 t), (4, .pointer (some ⟨w.heap.size, 0, none⟩)), (11, .int .i64 (c : Int)), (12, v1), (13, .bool b)] ∧ SI w' v1 xs ∧ (b = true → rest = List.cons xs (aft q q.ch.toNat [] xs) ∧ xs ∈ keysF q q.ch.toNat []) ∧ (b = false → rest = []) ∧ c + (rest.filter (okN cs a t)).length = nbN q cs a t ∧ Ext w2 w') _ (⟨keysF q q.ch.toNat [], v3, b3, xs3, 0, rfl, ⟨rfl, rfl, rfl, rfl, rfl, rfl, rfl, trivial⟩, hs3, (fun h => by subst h; exact ⟨keysF_head _ _ _ hh3.yes, mem_of_head hh3.yes⟩), (fun h => by subst h; exact hh3.no), by rw [nbN_keys, Nat.zero_add], hE3⟩) ?_
      · rintro m E w4 ⟨rest, v1, b, xs, c, rfl, hag, hs4, hb1, hb0, hcn, hE4⟩
        refine CW.re _ hag rfl ?_
        refine CW.seq ?_
        refine CW.seq ?_
        refine CW.region ?_
        refine RL.y rfl (y_mov (v := .bool _) rfl) ?_
        refine RL.nil ?_
        refine Fin.next ?_
        refine CW.cond rfl rfl (fun h4 => ?_) (fun h4 => ?_)
        · with_reducible first | (replace h4 := deNF h4) | (replace h4 := of_decide_eq_true h4) | (replace h4 := of_decide_eq_false h4) | (replace h4 := deNT h4) | (replace h4 := deNN h4) | (replace h4 := bnT h4) | (replace h4 := bnF h4) | skip
          subst h4
          obtain ⟨hrest, hxm⟩ := hb1 rfl
          have hxc : cuts q xs := keysF_cuts _ _ _ (fun x hx => by simp at hx) hxm
          have hxl : xs.length = q.ch.toNat := by have := (keysF_pre _ _ _ hxm).1; simpa using this
          have hlen : rest.length = (aft q q.ch.toNat [] xs).length + 1 := by rw [hrest, List.length_cons]
          have hflt : (rest.filter (okN cs a t)).length = (if okN cs a t xs = true then 1 else 0) + ((aft q q.ch.toNat [] xs).filter (okN cs a t)).length := by rw [hrest]; exact filt_cons
          refine CW.skip ?_
          refine Fin.next ?_
          refine CW.block ?_
          refine CW.seq ?_
          refine CW.region ?_
          refine RL.y rfl (y_loads ag25 rfl (eqw ((hV.ext hE2).ext hE4)) rfl) ?_
          refine RL.y rfl (y_mov (by conv => lhs; whnf)) ?_
          refine RL.lit1 rfl sT26 (slice_one hs4) rfl (fun uk w5 hok hE5 hbk => ?_)
          refine RL.call rfl (l04Hull_any hm (rdS_one hok.sv (hs4.ext hE5)) (fun k hk => by obtain rfl : k = xs := (by simpa using hk); omega)) ?_
          rintro vh w6 ⟨hh6, hE6⟩
          have hE46 := hE5.trans hE6
          refine RL.y rfl (y_mov (by conv => lhs; whnf)) ?_
          refine RL.y rfl (y_mov (v := .int _ _) rfl) ?_
          refine RL.y rfl (y_mov (v := .int _ _) rfl) ?_
          refine RL.call rfl (l08Key_any hh6.rd (hv.ext ((hE02.trans hE4).trans hE46)) (by rw [hul_len]; omega) (fun r hr x hx => by have := hul_mem hr x hx; omega) hs8 hn.1) ?_
          rintro r7 w7 ⟨rfl, hE7⟩
          have hE47 := hE46.trans hE7
          have hmay : mayTo (hul q [xs] q.ch.toNat) cs (a + 1).toNat t cs.length ↔ okN cs a t xs = true := (may_one hxc hxl (by omega)).trans okN_iff.symm
          refine RL.y rfl (y_mov (by conv => lhs; whnf)) ?_
          refine RL.y rfl (y_ext0 rfl) ?_
          refine RL.y rfl (y_ext1 rfl) ?_
          refine RL.y rfl (y_asg (v := .bool _) rfl) ?_
          refine RL.y rfl (y_asg (v := .bool _) rfl) ?_
          refine RL.nil ?_
          refine Fin.next ?_
          refine CW.cut (fun E w' => ∃ c' : Nat, agrees E [(1, v), (2, .int .i64 a), (3, .int .i64 t), (4, .pointer (some ⟨w.heap.size, 0, none⟩)), (11, .int .i64 (c' : Int)), (12, v1)] ∧ c' = c + (if okN cs a t xs = true then 1 else 0) ∧ w7 = w') ?_ ?_
          · refine CW.seq ?_
            refine CW.region ?_
            refine RL.y rfl (y_mov (v := .bool _) rfl) ?_
            refine RL.nil ?_
            refine Fin.next ?_
            refine CW.cond rfl rfl (fun h8 => ?_) (fun h8 => ?_)
            · with_reducible first | (replace h8 := deNF h8) | (replace h8 := of_decide_eq_true h8) | (replace h8 := of_decide_eq_false h8) | (replace h8 := deNT h8) | (replace h8 := deNN h8) | (replace h8 := bnT h8) | (replace h8 := bnF h8) | skip
              refine CW.region ?_
              refine RL.y rfl (y_mov (v := .int _ _) rfl) ?_
              refine RL.y rfl (y_add rfl rfl (IntWalk.i64_in _ (by omega))) ?_
              refine RL.y rfl (y_asg (v := .int _ _) rfl) ?_
              refine RL.nil ?_
              refine Fin.le ?_
              exact ⟨c + 1, ⟨rfl, rfl, rfl, rfl, rfl, rfl, trivial⟩, by rw [if_pos (hmay.1 h8)], rfl⟩
            · with_reducible first | (replace h8 := deNF h8) | (replace h8 := of_decide_eq_true h8) | (replace h8 := of_decide_eq_false h8) | (replace h8 := deNT h8) | (replace h8 := deNN h8) | (replace h8 := bnT h8) | (replace h8 := bnF h8) | skip
              refine CW.skip ?_
              refine Fin.le ?_
              exact ⟨c, ⟨rfl, rfl, rfl, rfl, rfl, rfl, trivial⟩, by rw [if_neg (fun h => h8 (hmay.2 h)), Nat.add_zero], rfl⟩
          · rintro E w8 ⟨c', hag, hc', rfl⟩
            refine CW.re _ hag rfl ?_
            refine CW.region ?_
            refine RL.y rfl (y_loads ag25 rfl (eqw ((hV.ext hE2).ext (hE4.trans hE47))) rfl) ?_
            refine RL.y rfl (y_mov (by conv => lhs; whnf)) ?_
            refine RL.call rfl (l02Next_any hm hxc (hs4.ext hE47) (by omega)) ?_
            rintro r9 w9 ⟨v9, b9, xs9, rfl, hs9, -, hh9, hE9⟩
            rw [hxl] at hh9
            refine RL.y rfl (y_mov (by conv => lhs; whnf)) ?_
            refine RL.y rfl (y_ext0 rfl) ?_
            refine RL.y rfl (y_ext1 rfl) ?_
            refine RL.y rfl (y_asg (by conv => lhs; whnf)) ?_
            refine RL.y rfl (y_asg (v := .bool _) rfl) ?_
            refine RL.nil ?_
            refine Fin.blockNormal ?_
            refine Fin.le ?_
            exact ⟨(aft q q.ch.toNat [] xs).length, by omega, aft q q.ch.toNat [] xs, v9, b9, xs9, c', rfl, ⟨rfl, rfl, rfl, rfl, rfl, rfl, rfl, trivial⟩, hs9, (fun h => by subst h; exact ⟨aft_next _ _ _ _ hxm hh9.yes, aft_mem _ _ _ _ hxm (mem_of_head hh9.yes)⟩), (fun h => by subst h; exact hh9.no), by omega, (hE4.trans hE47).trans hE9⟩
        · with_reducible first | (replace h4 := deNF h4) | (replace h4 := of_decide_eq_true h4) | (replace h4 := of_decide_eq_false h4) | (replace h4 := deNT h4) | (replace h4 := deNN h4) | (replace h4 := bnT h4) | (replace h4 := bnF h4) | skip
          subst h4
          rw [hb0 rfl] at hcn
          refine CW.exit ?_
          refine Fin.thenExit ?_
          refine Fin.thenExit ?_
          refine Fin.blockHit ?_
          refine Fin.next ?_
          refine CW.seq ?_
          refine CW.region ?_
          refine RL.y rfl (y_mov (v := .int _ _) rfl) ?_
          refine RL.y rfl (y_asg (v := .int _ _) rfl) ?_
          refine RL.y rfl (y_asg rfl) ?_
          refine RL.nil ?_
          refine Fin.next ?_
          refine CW.ret ?_
          refine Fin.ret2 rfl (by conv => lhs; whnf) (by conv => lhs; whnf) ?_
          exact ⟨_, rfl, by unfold nbV; rw [if_pos h1, h1, ← hcn]; rfl, hE02.trans hE4⟩
end Go.Proofs.Ytaepdknmagaokaa
