/-
  Faults of keys; locks; the codes.
-/
import Derived.Test.YtaepdknmagaokaaFWea1
namespace Go.Proofs.Ytaepdknmagaokaa
open B Go.RowKit

def RdL (w : World) (v : Value) (ss : List (List Int)) : Prop := ∃ vl, v = .agg #[vl] ∧ RdSS w vl ss
def RuL (w : World) (B U : Nat) (v : Value) (ss : List (List Int)) : Prop := ∃ vl, v = .agg #[vl] ∧ RuSS w B U vl ss
def OwL (w : World) (B U : Nat) (v : Value) (ss : List (List Int)) : Prop := ∃ vl, v = .agg #[vl] ∧ OwSS w B U vl ss
section
variable {w w' : World} {B U B' U' : Nat} {v : Value} {ss : List (List Int)}
theorem RdL.ext (h : RdL w v ss) (he : Ext w w') : RdL w' v ss := by obtain ⟨vl, e, h1⟩ := h; exact ⟨vl, e, h1.ext he⟩
theorem RuL.ext (h : RuL w B U v ss) (he : Ext w w') : RuL w' B U v ss := by obtain ⟨vl, e, h1⟩ := h; exact ⟨vl, e, h1.ext he⟩
theorem RuL.mod (h : RuL w B U v ss) (hm : Mod B' U' w w') (hd : U ≤ B' ∨ U' ≤ B) : RuL w' B U v ss := by obtain ⟨vl, e, h1⟩ := h; exact ⟨vl, e, h1.mod hm hd⟩
theorem RuL.rd (h : RuL w B U v ss) : RdL w v ss := by obtain ⟨vl, e, h1⟩ := h; exact ⟨vl, e, h1.rd⟩
theorem RuL.of (h : RuL w B U v ss) : RuL w B U v ss := h
theorem OwL.of (h : OwL w B U v ss) : OwL w B U v ss := h
theorem OwL.ext (h : OwL w B U v ss) (he : Ext w w') : OwL w' B U v ss := by obtain ⟨vl, e, h1⟩ := h; exact ⟨vl, e, h1.ext he⟩
theorem OwL.mod (h : OwL w B U v ss) (hm : Mod B' U' w w') (hd : U ≤ B' ∨ U' ≤ B) : OwL w' B U v ss := by obtain ⟨vl, e, h1⟩ := h; exact ⟨vl, e, h1.mod hm hd⟩
theorem OwL.rd (h : OwL w B U v ss) : RdL w v ss := by obtain ⟨vl, e, h1⟩ := h; exact ⟨vl, e, h1.rd⟩
theorem OwL.one {a : Value} (h : OwL w B U (.agg #[a]) ss) : ([a] : List Value).all (·.oneCell') = true := by
  obtain ⟨vl, e, ⟨cs, h3⟩⟩ := h
  obtain rfl : a = vl := by simpa using e
  simp [slice_one h3.1.sv]
theorem RuL.one {a : Value} (h : RuL w B U (.agg #[a]) ss) : ([a] : List Value).all (·.oneCell') = true := by
  obtain ⟨vl, e, h1⟩ := h
  obtain rfl : a = vl := by simpa using e
  obtain ⟨cs, h3⟩ := h1.rd
  simp [slice_one h3.1]
theorem RdL.sets {a : Value} (h : RdL w (.agg #[a]) ss) : RdSS w a ss := by
  obtain ⟨vl, e, h1⟩ := h
  obtain rfl : a = vl := by simpa using e
  exact h1
end
/-- A slice of locks. -/
def RdLs (w : World) (v : Value) (ls : List (List (List Int))) : Prop := ∃ cs, SV w v cs ∧ cs.length = ls.length ∧ ∀ i, i < ls.length → RdSS w (cs.getD i undef) (ls.getD i [])
theorem RdLs.ext {w w' : World} {v : Value} {ls : List (List (List Int))} (h : RdLs w v ls) (he : Ext w w') : RdLs w' v ls := by
  obtain ⟨cs, h1, h2, h3⟩ := h; exact ⟨cs, h1.ext he, h2, fun i hi => (h3 i hi).ext he⟩

theorem fault_no {q : Mk} {cs : List Int} {c : Int} (hc : c ≠ 0) (h : ¬ key q cs) : (c = 0 ↔ key q cs) := ⟨fun e => absurd e hc, fun e => absurd e h⟩

theorem l02Fault_any {w : World} {q : Mk} {v : Value} {cs : List Int} (hm : mkOk q) (hv : SI w v cs) :
    Does Try.prog 109 #[mkA q, v] w (fun r w' => ∃ x : Int, r = .int .i64 x ∧ (x = 0 ↔ key q cs) ∧ Ext w w') := by
  have hcl := SI.le hv
  obtain ⟨⟨m1, m2⟩, ⟨m3, m4⟩, ⟨m5, m6⟩, ⟨m7, m8⟩, ⟨m9, m10⟩⟩ := id hm
  refine enter Try.func109 rfl 71 Try.ntmps109 rfl (by kernel_rfl) ?_
  refine CW.seq ?_
  refine CW.region ?_
  refine RL.box (cs := [.int .i64 q.ch, .int .i64 q.dp, .int .i64 q.st, .int .i64 q.sm, .int .i64 q.le]) rfl rfl rfl (fun w1 hV hE => ?_)
  refine RL.y rfl (y_asg rfl) ?_
  refine RL.nil ?_
  refine Fin.next ?_
  refine CW.seq ?_
  refine CW.seq ?_
  refine CW.region ?_
  refine RL.y rfl (y_mov (by conv => lhs; whnf)) ?_
  refine RL.y rfl (y_len sT29 hv (ints_len _) rfl) ?_
  refine RL.y rfl (y_fa fa25_0 rfl rfl) ?_
  refine RL.y rfl (y_loadv sc2 (eqw (hV)) rfl rfl) ?_
  refine RL.y rfl (y_ne rfl rfl) ?_
  refine RL.nil ?_
  refine Fin.next ?_
  refine CW.cond rfl rfl (fun h1 => ?_) (fun h1 => ?_)
  · with_reducible first | (replace h1 := deNF h1) | (replace h1 := of_decide_eq_true h1) | (replace h1 := of_decide_eq_false h1) | (replace h1 := deNT h1) | (replace h1 := deNN h1) | (replace h1 := bnT h1) | (replace h1 := bnF h1) | skip
    refine CW.seq ?_
    refine CW.region ?_
    refine RL.y rfl (y_asg rfl) ?_
    refine RL.nil ?_
    refine Fin.next ?_
    refine CW.ret ?_
    refine Fin.thenRet ?_
    refine Fin.ret1 rfl (by conv => lhs; whnf) ?_
    exact ⟨_, rfl, 1, rfl, fault_no (by omega) (fun h => h1 h.1), hE⟩
  · with_reducible first | (replace h1 := deNF h1) | (replace h1 := of_decide_eq_true h1) | (replace h1 := of_decide_eq_false h1) | (replace h1 := deNT h1) | (replace h1 := deNN h1) | (replace h1 := bnT h1) | (replace h1 := bnF h1) | skip
    refine CW.skip ?_
    refine Fin.next ?_
    refine CW.seq ?_
    refine CW.seq ?_
    refine CW.region ?_
    refine RL.y rfl (y_loads ag25 rfl (eqw (hV)) rfl) ?_
    refine RL.y rfl (y_mov (by conv => lhs; whnf)) ?_
    refine RL.call rfl (l02Cuts_any hm (hv.ext hE)) ?_
    rintro r w2 ⟨rfl, hE2⟩
    have hE02 := hE.trans hE2
    refine RL.y rfl (y_not rfl) ?_
    refine RL.nil ?_
    refine Fin.next ?_
    refine CW.cond rfl rfl (fun h2 => ?_) (fun h2 => ?_)
    · with_reducible first | (replace h2 := deNF h2) | (replace h2 := of_decide_eq_true h2) | (replace h2 := of_decide_eq_false h2) | (replace h2 := deNT h2) | (replace h2 := deNN h2) | (replace h2 := bnT h2) | (replace h2 := bnF h2) | skip
      refine CW.seq ?_
      refine CW.region ?_
      refine RL.y rfl (y_asg rfl) ?_
      refine RL.nil ?_
      refine Fin.next ?_
      refine CW.ret ?_
      refine Fin.thenRet ?_
      refine Fin.ret1 rfl (by conv => lhs; whnf) ?_
      exact ⟨_, rfl, 2, rfl, fault_no (by omega) (fun h => h2 ⟨h.1, h.2.1⟩), hE02⟩
    · with_reducible first | (replace h2 := deNF h2) | (replace h2 := of_decide_eq_true h2) | (replace h2 := of_decide_eq_false h2) | (replace h2 := deNT h2) | (replace h2 := deNN h2) | (replace h2 := bnT h2) | (replace h2 := bnF h2) | skip
      have hcut := h2.2
      have hcb : ∀ i (hi : i < cs.length), 0 ≤ cs[i] ∧ cs[i] ≤ q.dp - 1 := fun i hi => hcut _ (List.getElem_mem hi)
      refine CW.skip ?_
      refine Fin.next ?_
      refine CW.seq ?_
      refine CW.region ?_
      refine RL.y rfl (y_asg rfl) ?_
      refine RL.y rfl (y_asg rfl) ?_
      refine RL.nil ?_
      refine Fin.next ?_
      refine CW.seq ?_
      refine CW.seq ?_
      refine CW.region ?_
      refine RL.y rfl (y_asg rfl) ?_
      refine RL.nil ?_
      refine Fin.next ?_
      refine CW.block ?_
      refine CW.loop (fun m E w' => ∃ k : Nat, m = cs.length - k ∧ k ≤ cs.length ∧ agrees E [(2, .pointer (some ⟨w.heap.size, 0, none⟩)), (1, v), (5, .int .i64 ((rnp cs k : Nat) : Int)), (6, .int .i64 ((mx cs k : Nat) : Int)), (7, .int .i64 (k : Int))] ∧ steps q cs k ∧ Ext w2 w') _ ⟨0, rfl, Nat.zero_le _, ⟨rfl, rfl, rfl, rfl, rfl, trivial⟩, (fun i hi => absurd hi (Nat.not_lt_zero i)), Ext.refl _⟩ ?_
      · rintro m E w3 ⟨k, rfl, hkk, hagk, hst, hE3⟩
        refine CW.re _ hagk rfl ?_
        clear hagk
        refine CW.seq ?_
        refine CW.seq ?_
        refine CW.region ?_
        refine RL.y rfl (y_mov (v := .int _ _) rfl) ?_
        refine RL.y rfl (y_mov (by conv => lhs; whnf)) ?_
        refine RL.y rfl (y_len sT29 hv (ints_len _) rfl) ?_
        refine RL.y rfl (y_lt rfl rfl) ?_
        refine RL.nil ?_
        refine Fin.next ?_
        refine CW.cond rfl rfl (fun hck => ?_) (fun hck => ?_)
        · with_reducible first | (replace hck := deNF hck) | (replace hck := of_decide_eq_true hck) | (replace hck := of_decide_eq_false hck) | (replace hck := deNT hck) | (replace hck := deNN hck) | (replace hck := bnT hck) | (replace hck := bnF hck) | skip
          have hltk : k < cs.length := by omega
          have hk0 := hcb k hltk
          have hrp := rnp_le cs k
          have hmxl := mx_le cs k
          have hv3 := (hv.ext hE02).ext hE3
          have hV3 := (hV.ext hE2).ext hE3
          have g0 : cs.getD k 0 = cs[k] := getD_lt hltk
          refine CW.skip ?_
          refine Fin.next ?_
          refine CW.seq ?_
          refine CW.block ?_
          refine CW.seq ?_
          refine CW.seq ?_
          refine CW.quietE mixed (by kernel_rfl) ?_
          refine QL.y rfl (y_mov (v := .int _ _) rfl) ?_
          refine QL.y rfl (y_gt rfl rfl) ?_
          refine QL.y rfl (y_mov (v := .bool _) rfl) ?_
          refine QL.split (t := 25) rfl rfl (fun hb => ?_) (fun hb => ?_)
          · with_reducible first | (replace hb := deNF hb) | (replace hb := of_decide_eq_true hb) | (replace hb := of_decide_eq_false hb) | (replace hb := deNT hb) | (replace hb := deNN hb) | (replace hb := bnT hb) | (replace hb := bnF hb) | skip
            have hk1 : k - 1 < cs.length := by omega
            have hk2 := hcb (k - 1) hk1
            have g1 : cs.getD (k - 1) 0 = cs[k - 1] := getD_lt hk1
            refine QL.take (t := 25) rfl rfl rfl ?_
            refine QL.y rfl (y_mov (by conv => lhs; whnf)) ?_
            refine QL.take (t := 25) rfl rfl rfl ?_
            refine QL.y rfl (y_mov (v := .int _ _) rfl) ?_
            refine QL.take (t := 25) rfl rfl rfl ?_
            refine QL.y rfl (y_ixa sT29 (fun _ hC => (hv3).ext hC) (k := k) (ints_lt hltk) rfl rfl) ?_
            refine QL.take (t := 25) rfl rfl rfl ?_
            refine QL.y rfl (y_load sc2 (fun _ hC => (hv3).ext hC) (ints_at hltk) rfl) ?_
            refine QL.take (t := 25) rfl rfl rfl ?_
            refine QL.y rfl (y_mov (by conv => lhs; whnf)) ?_
            refine QL.take (t := 25) rfl rfl rfl ?_
            refine QL.y rfl (y_mov (v := .int _ _) rfl) ?_
            refine QL.take (t := 25) rfl rfl rfl ?_
            refine QL.y rfl (y_sub rfl rfl ((show IntKind.i64.wrap ((k : Int) - 1) = ((k - 1 : Nat) : Int) by rw [IntWalk.i64_in _ (by omega)]; omega))) ?_
            refine QL.take (t := 25) rfl rfl rfl ?_
            refine QL.y rfl (y_ixa sT29 (fun _ hC => (hv3).ext hC) (k := k - 1) (ints_lt hk1) rfl rfl) ?_
            refine QL.take (t := 25) rfl rfl rfl ?_
            refine QL.y rfl (y_load sc2 (fun _ hC => (hv3).ext hC) (ints_at hk1) rfl) ?_
            refine QL.take (t := 25) rfl rfl rfl ?_
            refine QL.y rfl (y_sub rfl rfl (IntWalk.i64_in _ (by omega))) ?_
            refine QL.take (t := 25) rfl rfl rfl ?_
            refine QL.call rfl (fun _ hC => qs hC (l01Abs_any (by omega))) ?_
            refine QL.take (t := 25) rfl rfl rfl ?_
            refine QL.y rfl (y_fa fa25_2 rfl rfl) ?_
            refine QL.take (t := 25) rfl rfl rfl ?_
            refine QL.y rfl (y_loadv sc2 (fun _ hC => (hV3).ext hC) rfl rfl) ?_
            refine QL.take (t := 25) rfl rfl rfl ?_
            refine QL.y rfl (y_gt rfl rfl) ?_
            refine QL.y rfl (y_pickT (v := .bool _) rfl rfl) ?_
            refine QL.nil (fun w4 hE4 => ?_)
            refine Fin.next ?_
            refine CW.cond rfl rfl (fun hc3 => ?_) (fun hc3 => ?_)
            · with_reducible first | (replace hc3 := deNF hc3) | (replace hc3 := of_decide_eq_true hc3) | (replace hc3 := of_decide_eq_false hc3) | (replace hc3 := deNT hc3) | (replace hc3 := deNN hc3) | (replace hc3 := bnT hc3) | (replace hc3 := bnF hc3) | skip
              refine CW.seq ?_
              refine CW.region ?_
              refine RL.y rfl (y_asg rfl) ?_
              refine RL.nil ?_
              refine Fin.next ?_
              refine CW.ret ?_
              refine Fin.thenRet ?_
              refine Fin.blockRet ?_
              refine Fin.thenRet ?_
              refine Fin.thenRet ?_
              refine Fin.blockRet ?_
              refine Fin.thenRet ?_
              refine Fin.ret1 rfl (by conv => lhs; whnf) ?_
              exact ⟨_, rfl, 3, rfl, fault_no (by omega) (fun h => by have := h.2.2.1 k hltk (by omega); rw [g0, g1] at this; omega), hE02.trans (hE3.trans hE4)⟩
            · with_reducible first | (replace hc3 := deNF hc3) | (replace hc3 := of_decide_eq_true hc3) | (replace hc3 := of_decide_eq_false hc3) | (replace hc3 := deNT hc3) | (replace hc3 := deNN hc3) | (replace hc3 := bnT hc3) | (replace hc3 := bnF hc3) | skip
              have hst2 : steps q cs (k + 1) := all_succ hst (fun _ => by rw [g0, g1]; omega)
              refine CW.skip ?_
              refine Fin.next ?_
              refine CW.seq ?_
              refine CW.seq ?_
              refine CW.quietE mixed (by kernel_rfl) ?_
              refine QL.y rfl (y_mov (v := .int _ _) rfl) ?_
              refine QL.y rfl (y_gt rfl rfl) ?_
              refine QL.y rfl (y_mov (v := .bool _) rfl) ?_
              refine QL.force (t := 43) true rfl rfl ((decide_eq_true (by omega))) ?_
              refine QL.take (t := 43) rfl rfl rfl ?_
              refine QL.y rfl (y_mov (by conv => lhs; whnf)) ?_
              refine QL.take (t := 43) rfl rfl rfl ?_
              refine QL.y rfl (y_mov (v := .int _ _) rfl) ?_
              refine QL.take (t := 43) rfl rfl rfl ?_
              refine QL.y rfl (y_ixa sT29 (fun _ hC => (hv3.ext hE4).ext hC) (k := k) (ints_lt hltk) rfl rfl) ?_
              refine QL.take (t := 43) rfl rfl rfl ?_
              refine QL.y rfl (y_load sc2 (fun _ hC => (hv3.ext hE4).ext hC) (ints_at hltk) rfl) ?_
              refine QL.take (t := 43) rfl rfl rfl ?_
              refine QL.y rfl (y_mov (by conv => lhs; whnf)) ?_
              refine QL.take (t := 43) rfl rfl rfl ?_
              refine QL.y rfl (y_mov (v := .int _ _) rfl) ?_
              refine QL.take (t := 43) rfl rfl rfl ?_
              refine QL.y rfl (y_sub rfl rfl ((show IntKind.i64.wrap ((k : Int) - 1) = ((k - 1 : Nat) : Int) by rw [IntWalk.i64_in _ (by omega)]; omega))) ?_
              refine QL.take (t := 43) rfl rfl rfl ?_
              refine QL.y rfl (y_ixa sT29 (fun _ hC => (hv3.ext hE4).ext hC) (k := k - 1) (ints_lt hk1) rfl rfl) ?_
              refine QL.take (t := 43) rfl rfl rfl ?_
              refine QL.y rfl (y_load sc2 (fun _ hC => (hv3.ext hE4).ext hC) (ints_at hk1) rfl) ?_
              refine QL.take (t := 43) rfl rfl rfl ?_
              refine QL.y rfl (y_ne rfl rfl) ?_
              refine QL.y rfl (y_pickT (v := .bool _) rfl rfl) ?_
              refine QL.nil (fun w5 hE5 => ?_)
              refine Fin.next ?_
              refine CW.cond rfl rfl (fun hc4 => ?_) (fun hc4 => ?_)
              · with_reducible first | (replace hc4 := deNF hc4) | (replace hc4 := of_decide_eq_true hc4) | (replace hc4 := of_decide_eq_false hc4) | (replace hc4 := deNT hc4) | (replace hc4 := deNN hc4) | (replace hc4 := bnT hc4) | (replace hc4 := bnF hc4) | skip
                have hr1 : rn cs k = 1 := rn_new (by omega) (by rw [g0, g1]; exact hc4)
                refine CW.region ?_
                refine RL.y rfl (y_asg rfl) ?_
                refine RL.nil ?_
                refine Fin.next ?_
                refine CW.seq ?_
                refine CW.region ?_
                refine RL.y rfl (y_mov (v := .int _ _) rfl) ?_
                refine RL.y rfl (y_add rfl rfl (IntWalk.i64_in _ (by omega))) ?_
                refine RL.y rfl (y_asg (v := .int _ _) rfl) ?_
                refine RL.nil ?_
                refine Fin.next ?_
                refine CW.region ?_
                refine RL.y rfl (y_mov (v := .int _ _) rfl) ?_
                refine RL.y rfl (y_mov (v := .int _ _) rfl) ?_
                refine RL.y rfl (y_max rfl rfl) ?_
                refine RL.y rfl (y_asg (v := .int _ _) rfl) ?_
                refine RL.nil ?_
                refine Fin.blockNormal ?_
                refine Fin.next ?_
                refine CW.region ?_
                refine RL.y rfl (y_mov (v := .int _ _) rfl) ?_
                refine RL.y rfl (y_add rfl rfl (IntWalk.i64_in _ (by omega))) ?_
                refine RL.y rfl (y_asg (v := .int _ _) rfl) ?_
                refine RL.nil ?_
                refine Fin.le ?_
                exact ⟨cs.length - (k + 1), by omega, k + 1, rfl, hltk, ⟨rfl, rfl, congrArg (Value.int .i64) (show _ = ((rn cs k : Nat) : Int) by rw [hr1]; rfl), congrArg (Value.int .i64) (show _ = ((max (mx cs k) (rn cs k) : Nat) : Int) by rw [hr1]; omega), rfl, trivial⟩, hst2, (hE3.trans hE4).trans hE5⟩
              · with_reducible first | (replace hc4 := deNF hc4) | (replace hc4 := of_decide_eq_true hc4) | (replace hc4 := of_decide_eq_false hc4) | (replace hc4 := deNT hc4) | (replace hc4 := deNN hc4) | (replace hc4 := bnT hc4) | (replace hc4 := bnF hc4) | skip
                have hr1 : rn cs k = rnp cs k + 1 := rn_same (fun _ => by rw [g0, g1]; exact hc4)
                refine CW.skip ?_
                refine Fin.next ?_
                refine CW.seq ?_
                refine CW.region ?_
                refine RL.y rfl (y_mov (v := .int _ _) rfl) ?_
                refine RL.y rfl (y_add rfl rfl (IntWalk.i64_in _ (by omega))) ?_
                refine RL.y rfl (y_asg (v := .int _ _) rfl) ?_
                refine RL.nil ?_
                refine Fin.next ?_
                refine CW.region ?_
                refine RL.y rfl (y_mov (v := .int _ _) rfl) ?_
                refine RL.y rfl (y_mov (v := .int _ _) rfl) ?_
                refine RL.y rfl (y_max rfl rfl) ?_
                refine RL.y rfl (y_asg (v := .int _ _) rfl) ?_
                refine RL.nil ?_
                refine Fin.blockNormal ?_
                refine Fin.next ?_
                refine CW.region ?_
                refine RL.y rfl (y_mov (v := .int _ _) rfl) ?_
                refine RL.y rfl (y_add rfl rfl (IntWalk.i64_in _ (by omega))) ?_
                refine RL.y rfl (y_asg (v := .int _ _) rfl) ?_
                refine RL.nil ?_
                refine Fin.le ?_
                exact ⟨cs.length - (k + 1), by omega, k + 1, rfl, hltk, ⟨rfl, rfl, congrArg (Value.int .i64) (show _ = ((rn cs k : Nat) : Int) by rw [hr1]; rfl), congrArg (Value.int .i64) (show _ = ((max (mx cs k) (rn cs k) : Nat) : Int) by rw [hr1]; omega), rfl, trivial⟩, hst2, (hE3.trans hE4).trans hE5⟩
          · with_reducible first | (replace hb := deNF hb) | (replace hb := of_decide_eq_true hb) | (replace hb := of_decide_eq_false hb) | (replace hb := deNT hb) | (replace hb := deNN hb) | (replace hb := bnT hb) | (replace hb := bnF hb) | skip
            refine QL.pass (t := 25) rfl rfl rfl rfl ?_
            refine QL.pass (t := 25) rfl rfl rfl rfl ?_
            refine QL.pass (t := 25) rfl rfl rfl rfl ?_
            refine QL.pass (t := 25) rfl rfl rfl rfl ?_
            refine QL.pass (t := 25) rfl rfl rfl rfl ?_
            refine QL.pass (t := 25) rfl rfl rfl rfl ?_
            refine QL.pass (t := 25) rfl rfl rfl rfl ?_
            refine QL.pass (t := 25) rfl rfl rfl rfl ?_
            refine QL.pass (t := 25) rfl rfl rfl rfl ?_
            refine QL.pass (t := 25) rfl rfl rfl rfl ?_
            refine QL.pass (t := 25) rfl rfl rfl rfl ?_
            refine QL.pass (t := 25) rfl rfl rfl rfl ?_
            refine QL.pass (t := 25) rfl rfl rfl rfl ?_
            refine QL.pass (t := 25) rfl rfl rfl rfl ?_
            refine QL.y rfl (y_pickF (v := .bool _) rfl rfl) ?_
            refine QL.nil (fun w4 hE4 => ?_)
            have hk00 : k = 0 := by omega
            have hst2 : steps q cs (k + 1) := all_succ hst (fun h => by omega)
            refine Fin.next ?_
            refine CW.condF rfl rfl ?_
            refine CW.skip ?_
            refine Fin.next ?_
            refine CW.seq ?_
            refine CW.seq ?_
            refine CW.quietE mixed (by kernel_rfl) ?_
            refine QL.y rfl (y_mov (v := .int _ _) rfl) ?_
            refine QL.y rfl (y_gt rfl rfl) ?_
            refine QL.y rfl (y_mov (v := .bool _) rfl) ?_
            refine QL.force (t := 43) false rfl rfl ((decide_eq_false (by omega))) ?_
            refine QL.pass (t := 43) rfl rfl rfl rfl ?_
            refine QL.pass (t := 43) rfl rfl rfl rfl ?_
            refine QL.pass (t := 43) rfl rfl rfl rfl ?_
            refine QL.pass (t := 43) rfl rfl rfl rfl ?_
            refine QL.pass (t := 43) rfl rfl rfl rfl ?_
            refine QL.pass (t := 43) rfl rfl rfl rfl ?_
            refine QL.pass (t := 43) rfl rfl rfl rfl ?_
            refine QL.pass (t := 43) rfl rfl rfl rfl ?_
            refine QL.pass (t := 43) rfl rfl rfl rfl ?_
            refine QL.pass (t := 43) rfl rfl rfl rfl ?_
            refine QL.y rfl (y_pickF (v := .bool _) rfl rfl) ?_
            refine QL.nil (fun w5 hE5 => ?_)
            have hr1 : rn cs k = rnp cs k + 1 := rn_same (fun h => by omega)
            refine Fin.next ?_
            refine CW.condF rfl rfl ?_
            refine CW.skip ?_
            refine Fin.next ?_
            refine CW.seq ?_
            refine CW.region ?_
            refine RL.y rfl (y_mov (v := .int _ _) rfl) ?_
            refine RL.y rfl (y_add rfl rfl (IntWalk.i64_in _ (by omega))) ?_
            refine RL.y rfl (y_asg (v := .int _ _) rfl) ?_
            refine RL.nil ?_
            refine Fin.next ?_
            refine CW.region ?_
            refine RL.y rfl (y_mov (v := .int _ _) rfl) ?_
            refine RL.y rfl (y_mov (v := .int _ _) rfl) ?_
            refine RL.y rfl (y_max rfl rfl) ?_
            refine RL.y rfl (y_asg (v := .int _ _) rfl) ?_
            refine RL.nil ?_
            refine Fin.blockNormal ?_
            refine Fin.next ?_
            refine CW.region ?_
            refine RL.y rfl (y_mov (v := .int _ _) rfl) ?_
            refine RL.y rfl (y_add rfl rfl (IntWalk.i64_in _ (by omega))) ?_
            refine RL.y rfl (y_asg (v := .int _ _) rfl) ?_
            refine RL.nil ?_
            refine Fin.le ?_
            exact ⟨cs.length - (k + 1), by omega, k + 1, rfl, hltk, ⟨rfl, rfl, congrArg (Value.int .i64) (show _ = ((rn cs k : Nat) : Int) by rw [hr1]; rfl), congrArg (Value.int .i64) (show _ = ((max (mx cs k) (rn cs k) : Nat) : Int) by rw [hr1]; omega), rfl, trivial⟩, hst2, (hE3.trans hE4).trans hE5⟩
        · with_reducible first | (replace hck := deNF hck) | (replace hck := of_decide_eq_true hck) | (replace hck := of_decide_eq_false hck) | (replace hck := deNT hck) | (replace hck := deNN hck) | (replace hck := bnT hck) | (replace hck := bnF hck) | skip
          obtain rfl : cs.length = k := by omega
          have hV3 := (hV.ext hE2).ext hE3
          have hE03 := hE02.trans hE3
          refine CW.exit ?_
          refine Fin.thenExit ?_
          refine Fin.thenExit ?_
          refine Fin.blockHit ?_
          refine Fin.next ?_
          refine CW.seq ?_
          refine CW.block ?_
          refine CW.seq ?_
          refine CW.region ?_
          refine RL.y rfl (y_mov (v := .int _ _) rfl) ?_
          refine RL.y rfl (y_fa fa25_3 rfl rfl) ?_
          refine RL.y rfl (y_loadv sc2 (eqw (hV3)) rfl rfl) ?_
          refine RL.y rfl (y_gt rfl rfl) ?_
          refine RL.y rfl (y_asg (v := .bool _) rfl) ?_
          refine RL.nil ?_
          refine Fin.next ?_
          refine CW.cond rfl rfl (fun hc5 => ?_) (fun hc5 => ?_)
          · with_reducible first | (replace hc5 := deNF hc5) | (replace hc5 := of_decide_eq_true hc5) | (replace hc5 := of_decide_eq_false hc5) | (replace hc5 := deNT hc5) | (replace hc5 := deNN hc5) | (replace hc5 := bnT hc5) | (replace hc5 := bnF hc5) | skip
            refine CW.seq ?_
            refine CW.region ?_
            refine RL.y rfl (y_asg rfl) ?_
            refine RL.nil ?_
            refine Fin.next ?_
            refine CW.ret ?_
            refine Fin.blockRet ?_
            refine Fin.thenRet ?_
            refine Fin.ret1 rfl (by conv => lhs; whnf) ?_
            exact ⟨_, rfl, 4, rfl, fault_no (by omega) (fun h => by have := ((mx_runs (m := q) (cs := cs) cs.length).2 ⟨h.2.2.2.1, by omega⟩).1; omega), hE03⟩
          · with_reducible first | (replace hc5 := deNF hc5) | (replace hc5 := of_decide_eq_true hc5) | (replace hc5 := of_decide_eq_false hc5) | (replace hc5 := deNT hc5) | (replace hc5 := deNN hc5) | (replace hc5 := bnT hc5) | (replace hc5 := bnF hc5) | skip
            have hru := ((mx_runs (m := q) (cs := cs) cs.length).1 ⟨by omega, by omega⟩).1
            refine CW.seq ?_
            refine CW.quietE mixed (by kernel_rfl) ?_
            refine QL.y rfl (y_mov (by conv => lhs; whnf)) ?_
            refine QL.call rfl (fun _ hC => qc hC (l02Kinds_any ((hv.ext hE03).ext hC))) ?_
            refine QL.y rfl (y_fa fa25_4 rfl rfl) ?_
            refine QL.y rfl (y_loadv sc2 (fun _ hC => (hV3).ext hC) rfl rfl) ?_
            refine QL.y rfl (y_lt rfl rfl) ?_
            refine QL.y rfl (y_asg (v := .bool _) rfl) ?_
            refine QL.nil (fun w4 hE4 => ?_)
            refine Fin.next ?_
            refine CW.cond rfl rfl (fun hc6 => ?_) (fun hc6 => ?_)
            · with_reducible first | (replace hc6 := deNF hc6) | (replace hc6 := of_decide_eq_true hc6) | (replace hc6 := of_decide_eq_false hc6) | (replace hc6 := deNT hc6) | (replace hc6 := deNN hc6) | (replace hc6 := bnT hc6) | (replace hc6 := bnF hc6) | skip
              refine CW.seq ?_
              refine CW.region ?_
              refine RL.y rfl (y_asg rfl) ?_
              refine RL.nil ?_
              refine Fin.next ?_
              refine CW.ret ?_
              refine Fin.blockRet ?_
              refine Fin.thenRet ?_
              refine Fin.ret1 rfl (by conv => lhs; whnf) ?_
              exact ⟨_, rfl, 5, rfl, fault_no (by omega) (fun h => by have := h.2.2.2.2; omega), hE03.trans hE4⟩
            · with_reducible first | (replace hc6 := deNF hc6) | (replace hc6 := of_decide_eq_true hc6) | (replace hc6 := of_decide_eq_false hc6) | (replace hc6 := deNT hc6) | (replace hc6 := deNN hc6) | (replace hc6 := bnT hc6) | (replace hc6 := bnF hc6) | skip
              refine CW.skip ?_
              refine Fin.blockNormal ?_
              refine Fin.next ?_
              refine CW.seq ?_
              refine CW.region ?_
              refine RL.y rfl (y_asg rfl) ?_
              refine RL.nil ?_
              refine Fin.next ?_
              refine CW.ret ?_
              refine Fin.ret1 rfl (by conv => lhs; whnf) ?_
              exact ⟨_, rfl, 0, rfl, ⟨fun _ => ⟨h1, hcut, hst, hru, by omega⟩, fun _ => rfl⟩, hE03.trans hE4⟩

theorem keyFault_any {w : World} {q : Mk} {v : Value} {cs : List Int} (hm : mkOk q) (hv : SI w v cs) :
    Does Try.prog 110 #[mkA q, v] w (fun r w' => ∃ x : Int, r = .int .i64 x ∧ (x = 0 ↔ key q cs) ∧ Ext w w') := by
  have hcl := SI.le hv
  obtain ⟨⟨m1, m2⟩, ⟨m3, m4⟩, ⟨m5, m6⟩, ⟨m7, m8⟩, ⟨m9, m10⟩⟩ := id hm
  refine enter Try.func110 rfl 55 Try.ntmps110 rfl (by kernel_rfl) ?_
  refine CW.seq ?_
  refine CW.region ?_
  refine RL.box (cs := [.int .i64 q.ch, .int .i64 q.dp, .int .i64 q.st, .int .i64 q.sm, .int .i64 q.le]) rfl rfl rfl (fun w1 hV hE => ?_)
  refine RL.y rfl (y_asg rfl) ?_
  refine RL.nil ?_
  refine Fin.next ?_
  refine CW.seq ?_
  refine CW.seq ?_
  refine CW.region ?_
  refine RL.y rfl (y_mov (by conv => lhs; whnf)) ?_
  refine RL.y rfl (y_len sT29 hv (ints_len _) rfl) ?_
  refine RL.y rfl (y_fa fa25_0 rfl rfl) ?_
  refine RL.y rfl (y_loadv sc2 (eqw (hV)) rfl rfl) ?_
  refine RL.y rfl (y_ne rfl rfl) ?_
  refine RL.nil ?_
  refine Fin.next ?_
  refine CW.cond rfl rfl (fun h1 => ?_) (fun h1 => ?_)
  · with_reducible first | (replace h1 := deNF h1) | (replace h1 := of_decide_eq_true h1) | (replace h1 := of_decide_eq_false h1) | (replace h1 := deNT h1) | (replace h1 := deNN h1) | (replace h1 := bnT h1) | (replace h1 := bnF h1) | skip
    refine CW.seq ?_
    refine CW.region ?_
    refine RL.y rfl (y_asg rfl) ?_
    refine RL.nil ?_
    refine Fin.next ?_
    refine CW.ret ?_
    refine Fin.thenRet ?_
    refine Fin.ret1 rfl (by conv => lhs; whnf) ?_
    exact ⟨_, rfl, 1, rfl, fault_no (by omega) (fun h => h1 h.1), hE⟩
  · with_reducible first | (replace h1 := deNF h1) | (replace h1 := of_decide_eq_true h1) | (replace h1 := of_decide_eq_false h1) | (replace h1 := deNT h1) | (replace h1 := deNN h1) | (replace h1 := bnT h1) | (replace h1 := bnF h1) | skip
    refine CW.skip ?_
    refine Fin.next ?_
    refine CW.seq ?_
    refine CW.seq ?_
    refine CW.region ?_
    refine RL.y rfl (y_loads ag25 rfl (eqw (hV)) rfl) ?_
    refine RL.y rfl (y_mov (by conv => lhs; whnf)) ?_
    refine RL.call rfl (areCuts_any hm (hv.ext hE)) ?_
    rintro r w2 ⟨rfl, hE2⟩
    have hE02 := hE.trans hE2
    refine RL.y rfl (y_not rfl) ?_
    refine RL.nil ?_
    refine Fin.next ?_
    refine CW.cond rfl rfl (fun h2 => ?_) (fun h2 => ?_)
    · with_reducible first | (replace h2 := deNF h2) | (replace h2 := of_decide_eq_true h2) | (replace h2 := of_decide_eq_false h2) | (replace h2 := deNT h2) | (replace h2 := deNN h2) | (replace h2 := bnT h2) | (replace h2 := bnF h2) | skip
      refine CW.seq ?_
      refine CW.region ?_
      refine RL.y rfl (y_asg rfl) ?_
      refine RL.nil ?_
      refine Fin.next ?_
      refine CW.ret ?_
      refine Fin.thenRet ?_
      refine Fin.ret1 rfl (by conv => lhs; whnf) ?_
      exact ⟨_, rfl, 2, rfl, fault_no (by omega) (fun h => h2 ⟨h.1, h.2.1⟩), hE02⟩
    · with_reducible first | (replace h2 := deNF h2) | (replace h2 := of_decide_eq_true h2) | (replace h2 := of_decide_eq_false h2) | (replace h2 := deNT h2) | (replace h2 := deNN h2) | (replace h2 := bnT h2) | (replace h2 := bnF h2) | skip
      have hcut := h2.2
      have hcb : ∀ i (hi : i < cs.length), 0 ≤ cs[i] ∧ cs[i] ≤ q.dp - 1 := fun i hi => hcut _ (List.getElem_mem hi)
      refine CW.skip ?_
      refine Fin.next ?_
      refine CW.seq ?_
      refine CW.seq ?_
      refine CW.region ?_
      refine RL.y rfl (y_asg rfl) ?_
      refine RL.nil ?_
      refine Fin.next ?_
      refine CW.block ?_
      refine CW.loop (fun m E w' => ∃ k : Nat, m = cs.length - k ∧ 1 ≤ k ∧ k ≤ cs.length ∧ agrees E [(2, .pointer (some ⟨w.heap.size, 0, none⟩)), (1, v), (5, .int .i64 (k : Int))] ∧ steps q cs k ∧ Ext w2 w') _ (⟨1, rfl, Nat.le_refl _, by omega, ⟨rfl, rfl, rfl, trivial⟩, (fun i hi h => by omega), Ext.refl _⟩) ?_
      · rintro m E w3 ⟨k, rfl, hk1, hk, hag, hst, hE3⟩
        refine CW.re _ hag rfl ?_
        have hv3 := (hv.ext hE02).ext hE3
        have hV3 := (hV.ext hE2).ext hE3
        refine CW.seq ?_
        refine CW.seq ?_
        refine CW.region ?_
        refine RL.y rfl (y_mov (v := .int _ _) rfl) ?_
        refine RL.y rfl (y_mov (by conv => lhs; whnf)) ?_
        refine RL.y rfl (y_len sT29 hv (ints_len _) rfl) ?_
        refine RL.y rfl (y_lt rfl rfl) ?_
        refine RL.nil ?_
        refine Fin.next ?_
        refine CW.cond rfl rfl (fun hc => ?_) (fun hc => ?_)
        · with_reducible first | (replace hc := deNF hc) | (replace hc := of_decide_eq_true hc) | (replace hc := of_decide_eq_false hc) | (replace hc := deNT hc) | (replace hc := deNN hc) | (replace hc := bnT hc) | (replace hc := bnF hc) | skip
          have hltk : k < cs.length := by omega
          have hk1' : k - 1 < cs.length := by omega
          have hk0 := hcb k hltk
          have hk2 := hcb (k - 1) hk1'
          have g0 : cs.getD k 0 = cs[k] := getD_lt hltk
          have g1 : cs.getD (k - 1) 0 = cs[k - 1] := getD_lt hk1'
          refine CW.skip ?_
          refine Fin.next ?_
          refine CW.seq ?_
          refine CW.block ?_
          refine CW.seq ?_
          refine CW.quietE mixed (by kernel_rfl) ?_
          refine QL.y rfl (y_mov (by conv => lhs; whnf)) ?_
          refine QL.y rfl (y_mov (v := .int _ _) rfl) ?_
          refine QL.y rfl (y_ixa sT29 (fun _ hC => (hv3).ext hC) (k := k) (ints_lt hltk) rfl rfl) ?_
          refine QL.y rfl (y_load sc2 (fun _ hC => (hv3).ext hC) (ints_at hltk) rfl) ?_
          refine QL.y rfl (y_mov (by conv => lhs; whnf)) ?_
          refine QL.y rfl (y_mov (v := .int _ _) rfl) ?_
          refine QL.y rfl (y_sub rfl rfl ((show IntKind.i64.wrap ((k : Int) - 1) = ((k - 1 : Nat) : Int) by rw [IntWalk.i64_in _ (by omega)]; omega))) ?_
          refine QL.y rfl (y_ixa sT29 (fun _ hC => (hv3).ext hC) (k := k - 1) (ints_lt hk1') rfl rfl) ?_
          refine QL.y rfl (y_load sc2 (fun _ hC => (hv3).ext hC) (ints_at hk1') rfl) ?_
          refine QL.y rfl (y_sub rfl rfl (IntWalk.i64_in _ (by omega))) ?_
          refine QL.call rfl (fun _ hC => qs hC (absolute_any (by omega))) ?_
          refine QL.y rfl (y_fa fa25_2 rfl rfl) ?_
          refine QL.y rfl (y_loadv sc2 (fun _ hC => (hV3).ext hC) rfl rfl) ?_
          refine QL.y rfl (y_gt rfl rfl) ?_
          refine QL.nil (fun w4 hE4 => ?_)
          refine Fin.next ?_
          refine CW.cond rfl rfl (fun hc3 => ?_) (fun hc3 => ?_)
          · with_reducible first | (replace hc3 := deNF hc3) | (replace hc3 := of_decide_eq_true hc3) | (replace hc3 := of_decide_eq_false hc3) | (replace hc3 := deNT hc3) | (replace hc3 := deNN hc3) | (replace hc3 := bnT hc3) | (replace hc3 := bnF hc3) | skip
            refine CW.seq ?_
            refine CW.region ?_
            refine RL.y rfl (y_asg rfl) ?_
            refine RL.nil ?_
            refine Fin.next ?_
            refine CW.ret ?_
            refine Fin.blockRet ?_
            refine Fin.thenRet ?_
            refine Fin.thenRet ?_
            refine Fin.blockRet ?_
            refine Fin.thenRet ?_
            refine Fin.ret1 rfl (by conv => lhs; whnf) ?_
            exact ⟨_, rfl, 3, rfl, fault_no (by omega) (fun h => by have := h.2.2.1 k hltk (by omega); rw [g0, g1] at this; omega), hE02.trans (hE3.trans hE4)⟩
          · with_reducible first | (replace hc3 := deNF hc3) | (replace hc3 := of_decide_eq_true hc3) | (replace hc3 := of_decide_eq_false hc3) | (replace hc3 := deNT hc3) | (replace hc3 := deNN hc3) | (replace hc3 := bnT hc3) | (replace hc3 := bnF hc3) | skip
            refine CW.skip ?_
            refine Fin.blockNormal ?_
            refine Fin.next ?_
            refine CW.region ?_
            refine RL.y rfl (y_mov (v := .int _ _) rfl) ?_
            refine RL.y rfl (y_add rfl rfl (IntWalk.i64_in _ (by omega))) ?_
            refine RL.y rfl (y_asg (v := .int _ _) rfl) ?_
            refine RL.nil ?_
            refine Fin.le ?_
            exact ⟨cs.length - (k + 1), by omega, k + 1, rfl, by omega, hltk, ⟨rfl, rfl, rfl, trivial⟩, all_succ hst (fun _ => by rw [g0, g1]; omega), hE3.trans hE4⟩
        · with_reducible first | (replace hc := deNF hc) | (replace hc := of_decide_eq_true hc) | (replace hc := of_decide_eq_false hc) | (replace hc := deNT hc) | (replace hc := deNN hc) | (replace hc := bnT hc) | (replace hc := bnF hc) | skip
          obtain rfl : k = cs.length := by omega
          refine CW.exit ?_
          refine Fin.thenExit ?_
          refine Fin.thenExit ?_
          refine Fin.blockHit ?_
          refine Fin.next ?_
          refine CW.seq ?_
          refine CW.seq ?_
          refine CW.region ?_
          refine RL.y rfl (y_mov (by conv => lhs; whnf)) ?_
          refine RL.y rfl (y_len sT29 hv (ints_len _) rfl) ?_
          refine RL.y rfl (y_mov rfl) ?_
          refine RL.nil ?_
          refine Fin.next ?_
          refine CW.block ?_
          refine CW.loop (fun m E w' => ∃ i : Nat, m = cs.length - i ∧ i ≤ cs.length ∧ agrees E [(2, .pointer (some ⟨w.heap.size, 0, none⟩)), (1, v), (37, .int .i64 cs.length), (38, .int .i64 (i : Int))] ∧ runs q cs i ∧ Ext w3 w') _ ⟨0, rfl, Nat.zero_le _, ⟨rfl, rfl, rfl, rfl, trivial⟩, (fun i hi => absurd hi (Nat.not_lt_zero i)), Ext.refl _⟩ ?_
          · rintro m E w4 ⟨i, rfl, hki, hagi, hru, hE4⟩
            refine CW.re _ hagi rfl ?_
            clear hagi
            refine CW.seq ?_
            refine CW.region ?_
            refine RL.y rfl (y_lt rfl rfl) ?_
            refine RL.nil ?_
            refine Fin.next ?_
            refine CW.seq ?_
            refine CW.cond rfl rfl (fun hci => ?_) (fun hci => ?_)
            · with_reducible first | (replace hci := deNF hci) | (replace hci := of_decide_eq_true hci) | (replace hci := of_decide_eq_false hci) | (replace hci := deNT hci) | (replace hci := deNN hci) | (replace hci := bnT hci) | (replace hci := bnF hci) | skip
              have hlti : i < cs.length := by omega
              have hi1 : (cs.take (i + 1)).length = i + 1 := by rw [List.length_take]; omega
              have hrn : rn (cs.take (i + 1)) ((cs.take (i + 1)).length - 1) = rn cs i := by rw [hi1]; exact rn_take i (by omega)
              refine CW.skip ?_
              refine Fin.next ?_
              refine CW.seq ?_
              refine CW.block ?_
              refine CW.seq ?_
              refine CW.region ?_
              refine RL.y rfl (y_mov (v := .int _ _) rfl) ?_
              refine RL.y rfl (y_asg (v := .int _ _) rfl) ?_
              refine RL.nil ?_
              refine Fin.next ?_
              refine CW.seq ?_
              refine CW.quietE mixed (by kernel_rfl) ?_
              refine QL.y rfl (y_mov (by conv => lhs; whnf)) ?_
              refine QL.y rfl (y_mov (v := .int _ _) rfl) ?_
              refine QL.y rfl (y_add rfl rfl (IntWalk.i64_in _ (by omega))) ?_
              refine QL.y rfl (y_cutH sT29 (fun _ hC => (hv3.ext hE4).ext hC) (h := i + 1) (by rw [ints_len]; omega) rfl rfl ) ?_
              refine QL.call rfl (fun _ hC => qc hC (sameRun_any (SI.take ((hv3.ext hE4).ext hC) (by omega)) (by omega))) ?_
              refine QL.y rfl (y_fa fa25_3 rfl rfl) ?_
              refine QL.y rfl (y_loadv sc2 (fun _ hC => (hV3.ext hE4).ext hC) rfl rfl) ?_
              refine QL.y rfl (y_gt rfl rfl) ?_
              refine QL.nil (fun w5 hE5 => ?_)
              rw [hrn]
              refine Fin.next ?_
              refine CW.cond rfl rfl (fun hc7 => ?_) (fun hc7 => ?_)
              · with_reducible first | (replace hc7 := deNF hc7) | (replace hc7 := of_decide_eq_true hc7) | (replace hc7 := of_decide_eq_false hc7) | (replace hc7 := deNT hc7) | (replace hc7 := deNN hc7) | (replace hc7 := bnT hc7) | (replace hc7 := bnF hc7) | skip
                refine CW.seq ?_
                refine CW.region ?_
                refine RL.y rfl (y_asg rfl) ?_
                refine RL.nil ?_
                refine Fin.next ?_
                refine CW.ret ?_
                refine Fin.blockRet ?_
                refine Fin.thenRet ?_
                refine Fin.thenRet ?_
                refine Fin.blockRet ?_
                refine Fin.thenRet ?_
                refine Fin.ret1 rfl (by conv => lhs; whnf) ?_
                exact ⟨_, rfl, 4, rfl, fault_no (by omega) (fun h => by have := h.2.2.2.1 i hlti; omega), (hE02.trans hE3).trans (hE4.trans hE5)⟩
              · with_reducible first | (replace hc7 := deNF hc7) | (replace hc7 := of_decide_eq_true hc7) | (replace hc7 := of_decide_eq_false hc7) | (replace hc7 := deNT hc7) | (replace hc7 := deNN hc7) | (replace hc7 := bnT hc7) | (replace hc7 := bnF hc7) | skip
                refine CW.skip ?_
                refine Fin.blockNormal ?_
                refine Fin.next ?_
                refine CW.region ?_
                refine RL.y rfl (y_add rfl rfl (IntWalk.i64_in _ (by omega))) ?_
                refine RL.y rfl (y_mov (v := .int _ _) rfl) ?_
                refine RL.nil ?_
                refine Fin.le ?_
                exact ⟨cs.length - (i + 1), by omega, i + 1, rfl, hlti, ⟨rfl, rfl, rfl, rfl, trivial⟩, all_succ hru (by omega), hE4.trans hE5⟩
            · with_reducible first | (replace hci := deNF hci) | (replace hci := of_decide_eq_true hci) | (replace hci := of_decide_eq_false hci) | (replace hci := deNT hci) | (replace hci := deNN hci) | (replace hci := bnT hci) | (replace hci := bnF hci) | skip
              obtain rfl : cs.length = i := by omega
              have hE04 := (hE02.trans hE3).trans hE4
              refine CW.exit ?_
              refine Fin.thenExit ?_
              refine Fin.thenExit ?_
              refine Fin.blockHit ?_
              refine Fin.next ?_
              refine CW.seq ?_
              refine CW.seq ?_
              refine CW.quietE mixed (by kernel_rfl) ?_
              refine QL.y rfl (y_mov (by conv => lhs; whnf)) ?_
              refine QL.call rfl (fun _ hC => qs hC (different_any ((hv3.ext hE4).ext hC))) ?_
              refine QL.y rfl (y_fa fa25_4 rfl rfl) ?_
              refine QL.y rfl (y_loadv sc2 (fun _ hC => (hV3.ext hE4).ext hC) rfl rfl) ?_
              refine QL.y rfl (y_lt rfl rfl) ?_
              refine QL.nil (fun w5 hE5 => ?_)
              refine Fin.next ?_
              refine CW.cond rfl rfl (fun hc6 => ?_) (fun hc6 => ?_)
              · with_reducible first | (replace hc6 := deNF hc6) | (replace hc6 := of_decide_eq_true hc6) | (replace hc6 := of_decide_eq_false hc6) | (replace hc6 := deNT hc6) | (replace hc6 := deNN hc6) | (replace hc6 := bnT hc6) | (replace hc6 := bnF hc6) | skip
                refine CW.seq ?_
                refine CW.region ?_
                refine RL.y rfl (y_asg rfl) ?_
                refine RL.nil ?_
                refine Fin.next ?_
                refine CW.ret ?_
                refine Fin.thenRet ?_
                refine Fin.ret1 rfl (by conv => lhs; whnf) ?_
                exact ⟨_, rfl, 5, rfl, fault_no (by omega) (fun h => by have := h.2.2.2.2; omega), hE04.trans hE5⟩
              · with_reducible first | (replace hc6 := deNF hc6) | (replace hc6 := of_decide_eq_true hc6) | (replace hc6 := of_decide_eq_false hc6) | (replace hc6 := deNT hc6) | (replace hc6 := deNN hc6) | (replace hc6 := bnT hc6) | (replace hc6 := bnF hc6) | skip
                refine CW.skip ?_
                refine Fin.next ?_
                refine CW.seq ?_
                refine CW.region ?_
                refine RL.y rfl (y_asg rfl) ?_
                refine RL.nil ?_
                refine Fin.next ?_
                refine CW.ret ?_
                refine Fin.ret1 rfl (by conv => lhs; whnf) ?_
                exact ⟨_, rfl, 0, rfl, ⟨fun _ => ⟨h1, hcut, hst, hru, by omega⟩, fun _ => rfl⟩, hE04.trans hE5⟩

theorem isKey_any {w : World} {q : Mk} {v : Value} {cs : List Int} (hm : mkOk q) (hv : SI w v cs) :
    Does Try.prog 80 #[mkA q, v] w (fun r w' => r = .bool (decide (key q cs)) ∧ Ext w w') := by
  refine enter Try.func80 rfl 9 Try.ntmps80 rfl (by kernel_rfl) ?_
  refine CW.seq ?_
  refine CW.region ?_
  refine RL.box (cs := [.int .i64 q.ch, .int .i64 q.dp, .int .i64 q.st, .int .i64 q.sm, .int .i64 q.le]) rfl rfl rfl (fun w1 hV hE => ?_)
  refine RL.y rfl (y_asg rfl) ?_
  refine RL.nil ?_
  refine Fin.next ?_
  refine CW.seq ?_
  refine CW.region ?_
  refine RL.y rfl (y_loads ag25 rfl (eqw (hV)) rfl) ?_
  refine RL.y rfl (y_mov (by conv => lhs; whnf)) ?_
  refine RL.call rfl (keyFault_any hm (hv.ext hE)) ?_
  rintro r w2 ⟨x, rfl, hx, hE2⟩
  refine RL.y rfl (y_eq rfl rfl) ?_
  refine RL.y rfl (y_asg (v := .bool _) rfl) ?_
  refine RL.nil ?_
  refine Fin.next ?_
  refine CW.ret ?_
  refine Fin.ret1 rfl (by conv => lhs; whnf) ?_
  exact ⟨_, rfl, bD hx, hE.trans hE2⟩

theorem l02Code_any {w : World} {q : Mk} {v : Value} {cs : List Int} (hv : SI w v cs) :
    Does Try.prog 73 #[mkA q, v] w (fun r w' => r = .int .i64 (if ¬ mkOk q then 1 else if key q cs then 0 else 2) ∧ Ext w w') := by
  refine enter Try.func73 rfl 12 Try.ntmps73 rfl (by kernel_rfl) ?_
  refine CW.seq ?_
  refine CW.region ?_
  refine RL.box (cs := [.int .i64 q.ch, .int .i64 q.dp, .int .i64 q.st, .int .i64 q.sm, .int .i64 q.le]) rfl rfl rfl (fun w1 hV hE => ?_)
  refine RL.y rfl (y_asg rfl) ?_
  refine RL.nil ?_
  refine Fin.next ?_
  refine CW.seq ?_
  refine CW.seq ?_
  refine CW.region ?_
  refine RL.y rfl (y_loads ag25 rfl (eqw (hV)) rfl) ?_
  refine RL.call rfl (specIsMaker_any) ?_
  rintro r w2 ⟨rfl, hE2⟩
  refine RL.y rfl (y_not rfl) ?_
  refine RL.nil ?_
  refine Fin.next ?_
  refine CW.cond rfl rfl (fun h1 => ?_) (fun h1 => ?_)
  · with_reducible first | (replace h1 := deNF h1) | (replace h1 := of_decide_eq_true h1) | (replace h1 := of_decide_eq_false h1) | (replace h1 := deNT h1) | (replace h1 := deNN h1) | (replace h1 := bnT h1) | (replace h1 := bnF h1) | skip
    refine CW.seq ?_
    refine CW.region ?_
    refine RL.y rfl (y_asg rfl) ?_
    refine RL.nil ?_
    refine Fin.next ?_
    refine CW.ret ?_
    refine Fin.thenRet ?_
    refine Fin.ret1 rfl (by conv => lhs; whnf) ?_
    exact ⟨_, rfl, by rw [if_pos h1], hE.trans hE2⟩
  · with_reducible first | (replace h1 := deNF h1) | (replace h1 := of_decide_eq_true h1) | (replace h1 := of_decide_eq_false h1) | (replace h1 := deNT h1) | (replace h1 := deNN h1) | (replace h1 := bnT h1) | (replace h1 := bnF h1) | skip
    refine CW.skip ?_
    refine Fin.next ?_
    refine CW.seq ?_
    refine CW.seq ?_
    refine CW.region ?_
    refine RL.y rfl (y_loads ag25 rfl (eqw (hV.ext hE2)) rfl) ?_
    refine RL.y rfl (y_mov (by conv => lhs; whnf)) ?_
    refine RL.call rfl (l02Fault_any h1 ((hv.ext hE).ext hE2)) ?_
    rintro r w3 ⟨x, rfl, hx, hE3⟩
    refine RL.y rfl (y_ne rfl rfl) ?_
    refine RL.nil ?_
    refine Fin.next ?_
    refine CW.cond rfl rfl (fun h2 => ?_) (fun h2 => ?_)
    · with_reducible first | (replace h2 := deNF h2) | (replace h2 := of_decide_eq_true h2) | (replace h2 := of_decide_eq_false h2) | (replace h2 := deNT h2) | (replace h2 := deNN h2) | (replace h2 := bnT h2) | (replace h2 := bnF h2) | skip
      refine CW.seq ?_
      refine CW.region ?_
      refine RL.y rfl (y_asg rfl) ?_
      refine RL.nil ?_
      refine Fin.next ?_
      refine CW.ret ?_
      refine Fin.thenRet ?_
      refine Fin.ret1 rfl (by conv => lhs; whnf) ?_
      exact ⟨_, rfl, by rw [if_neg (not_not_intro h1), if_neg (fun h => h2 (hx.2 h))], (hE.trans hE2).trans hE3⟩
    · with_reducible first | (replace h2 := deNF h2) | (replace h2 := of_decide_eq_true h2) | (replace h2 := of_decide_eq_false h2) | (replace h2 := deNT h2) | (replace h2 := deNN h2) | (replace h2 := bnT h2) | (replace h2 := bnF h2) | skip
      refine CW.skip ?_
      refine Fin.next ?_
      refine CW.seq ?_
      refine CW.region ?_
      refine RL.y rfl (y_asg rfl) ?_
      refine RL.nil ?_
      refine Fin.next ?_
      refine CW.ret ?_
      refine Fin.ret1 rfl (by conv => lhs; whnf) ?_
      exact ⟨_, rfl, by rw [if_neg (not_not_intro h1), if_pos (hx.1 h2)], (hE.trans hE2).trans hE3⟩

theorem specIsLock_any {w : World} {q : Mk} {v : Value} {ss : List (List Int)} (hv : RdL w v ss) :
    Does Try.prog 97 #[mkA q, v] w (fun r w' => r = .bool (decide (lck q ss)) ∧ Ext w w') := by
  obtain ⟨vl, rfl, cs, hc⟩ := hv
  have hcl := hc.le
  refine enter Try.func97 rfl 42 Try.ntmps97 rfl (by kernel_rfl) ?_
  refine CW.seq ?_
  refine CW.region ?_
  refine RL.box (cs := [.int .i64 q.ch, .int .i64 q.dp, .int .i64 q.st, .int .i64 q.sm, .int .i64 q.le]) rfl rfl rfl (fun w1 hV hE1 => ?_)
  refine RL.box (cs := [vl]) rfl rfl rfl (fun w2 hW hE2 => ?_)
  refine RL.y rfl (y_asg rfl) ?_
  refine RL.nil ?_
  refine Fin.next ?_
  refine CW.seq ?_
  refine CW.seq ?_
  refine CW.region ?_
  refine RL.y rfl (y_loads ag25 rfl (eqw (hV.ext hE2)) rfl) ?_
  refine RL.call rfl (specIsMaker_any) ?_
  rintro r w3 ⟨rfl, hE3⟩
  have hE03 := (hE1.trans hE2).trans hE3
  refine RL.y rfl (y_not rfl) ?_
  refine RL.y rfl (y_mov (v := .bool _) rfl) ?_
  refine RL.split (t := 9) rfl rfl (fun h1 => ?_) (fun h1 => ?_)
  · with_reducible first | (replace h1 := deNF h1) | (replace h1 := of_decide_eq_true h1) | (replace h1 := of_decide_eq_false h1) | (replace h1 := deNT h1) | (replace h1 := deNN h1) | (replace h1 := bnT h1) | (replace h1 := bnF h1) | skip
    refine RL.pass (t := 9) rfl rfl rfl rfl ?_
    refine RL.pass (t := 9) rfl rfl rfl rfl ?_
    refine RL.pass (t := 9) rfl rfl rfl rfl ?_
    refine RL.pass (t := 9) rfl rfl rfl rfl ?_
    refine RL.pass (t := 9) rfl rfl rfl rfl ?_
    refine RL.pass (t := 9) rfl rfl rfl rfl ?_
    refine RL.y rfl (y_pickT (v := .bool _) rfl rfl) ?_
    refine RL.nil ?_
    refine Fin.next ?_
    refine CW.condT rfl rfl ?_
    refine CW.seq ?_
    refine CW.region ?_
    refine RL.y rfl (y_asg rfl) ?_
    refine RL.nil ?_
    refine Fin.next ?_
    refine CW.ret ?_
    refine Fin.thenRet ?_
    refine Fin.ret1 rfl (by conv => lhs; whnf) ?_
    exact ⟨_, rfl, bF (fun h => h1 h.1), hE03⟩
  · with_reducible first | (replace h1 := deNF h1) | (replace h1 := of_decide_eq_true h1) | (replace h1 := of_decide_eq_false h1) | (replace h1 := deNT h1) | (replace h1 := deNN h1) | (replace h1 := bnT h1) | (replace h1 := bnF h1) | skip
    refine RL.take (t := 9) rfl rfl rfl ?_
    refine RL.y rfl (y_fa fa28_0 rfl rfl) ?_
    refine RL.take (t := 9) rfl rfl rfl ?_
    refine RL.y rfl (y_loadv sc26 (eqw (hW.ext hE3)) rfl rfl) ?_
    refine RL.take (t := 9) rfl rfl rfl ?_
    refine RL.y rfl (y_len sT26 hc.1 hc.2.1 rfl) ?_
    refine RL.take (t := 9) rfl rfl rfl ?_
    refine RL.y rfl (y_fa fa25_0 rfl rfl) ?_
    refine RL.take (t := 9) rfl rfl rfl ?_
    refine RL.y rfl (y_loadv sc2 (eqw ((hV.ext hE2).ext hE3)) rfl rfl) ?_
    refine RL.take (t := 9) rfl rfl rfl ?_
    refine RL.y rfl (y_ne rfl rfl) ?_
    refine RL.y rfl (y_pickF (v := .bool _) rfl rfl) ?_
    refine RL.nil ?_
    refine Fin.next ?_
    refine CW.cond rfl rfl (fun h2 => ?_) (fun h2 => ?_)
    · with_reducible first | (replace h2 := deNF h2) | (replace h2 := of_decide_eq_true h2) | (replace h2 := of_decide_eq_false h2) | (replace h2 := deNT h2) | (replace h2 := deNN h2) | (replace h2 := bnT h2) | (replace h2 := bnF h2) | skip
      refine CW.seq ?_
      refine CW.region ?_
      refine RL.y rfl (y_asg rfl) ?_
      refine RL.nil ?_
      refine Fin.next ?_
      refine CW.ret ?_
      refine Fin.thenRet ?_
      refine Fin.ret1 rfl (by conv => lhs; whnf) ?_
      exact ⟨_, rfl, bF (fun h => h2 h.2.1), hE03⟩
    · with_reducible first | (replace h2 := deNF h2) | (replace h2 := of_decide_eq_true h2) | (replace h2 := of_decide_eq_false h2) | (replace h2 := deNT h2) | (replace h2 := deNN h2) | (replace h2 := bnT h2) | (replace h2 := bnF h2) | skip
      have hV3 := (hV.ext hE2).ext hE3
      have hW3 := hW.ext hE3
      have hc3 := hc.ext hE03
      refine CW.skip ?_
      refine Fin.next ?_
      refine CW.seq ?_
      refine CW.seq ?_
      refine CW.region ?_
      refine RL.y rfl (y_asg rfl) ?_
      refine RL.nil ?_
      refine Fin.next ?_
      refine CW.block ?_
      refine CW.loop (fun m E w' => ∃ k : Nat, m = ss.length - k ∧ k ≤ ss.length ∧ agrees E [(2, .pointer (some ⟨w.heap.size, 0, none⟩)), (3, .pointer (some ⟨w1.heap.size, 0, none⟩)), (5, .int .i64 (k : Int))] ∧ (∀ r ∈ ss.take k, 0 < r.length ∧ rises r q.dp) ∧ Ext w3 w') _ ⟨0, rfl, Nat.zero_le _, ⟨rfl, rfl, rfl, trivial⟩, by simp, Ext.refl _⟩ ?_
      · rintro m E w4 ⟨k, rfl, hkk, hagk, hall, hE4⟩
        refine CW.re _ hagk rfl ?_
        clear hagk
        refine CW.seq ?_
        refine CW.seq ?_
        refine CW.region ?_
        refine RL.y rfl (y_mov (v := .int _ _) rfl) ?_
        refine RL.y rfl (y_fa fa28_0 rfl rfl) ?_
        refine RL.y rfl (y_loadv sc26 (eqw (hW3.ext hE4)) rfl rfl) ?_
        refine RL.y rfl (y_len sT26 hc.1 hc.2.1 rfl) ?_
        refine RL.y rfl (y_lt rfl rfl) ?_
        refine RL.nil ?_
        refine Fin.next ?_
        refine CW.cond rfl rfl (fun hck => ?_) (fun hck => ?_)
        · with_reducible first | (replace hck := deNF hck) | (replace hck := of_decide_eq_true hck) | (replace hck := of_decide_eq_false hck) | (replace hck := deNT hck) | (replace hck := deNN hck) | (replace hck := bnT hck) | (replace hck := bnF hck) | skip
          have hltk : k < ss.length := by omega
          refine CW.skip ?_
          refine Fin.next ?_
          refine CW.seq ?_
          refine CW.block ?_
          refine CW.seq ?_
          refine CW.quietE mixed (by kernel_rfl) ?_
          refine QL.y rfl (y_fa fa28_0 rfl rfl) ?_
          refine QL.y rfl (y_loadv sc26 (fun _ hC => (hW3.ext hE4).ext hC) rfl rfl) ?_
          refine QL.y rfl (y_mov (v := .int _ _) rfl) ?_
          refine QL.y rfl (y_ixa sT26 (fun _ hC => (hc3.1.ext hE4).ext hC) (k := k) (hc.lt hltk) rfl rfl) ?_
          refine QL.y rfl (y_load sc29 (fun _ hC => (hc3.1.ext hE4).ext hC) (hc.at hltk) rfl) ?_
          refine QL.y rfl (y_len sT29 (hc.row hltk) (ints_len _) rfl) ?_
          refine QL.y rfl (y_eq rfl rfl) ?_
          refine QL.y rfl (y_mov (v := .bool _) rfl) ?_
          refine QL.split (t := 31) rfl rfl (fun h3 => ?_) (fun h3 => ?_)
          · with_reducible first | (replace h3 := deNF h3) | (replace h3 := of_decide_eq_true h3) | (replace h3 := of_decide_eq_false h3) | (replace h3 := deNT h3) | (replace h3 := deNN h3) | (replace h3 := bnT h3) | (replace h3 := bnF h3) | skip
            refine QL.pass (t := 31) rfl rfl rfl rfl ?_
            refine QL.pass (t := 31) rfl rfl rfl rfl ?_
            refine QL.pass (t := 31) rfl rfl rfl rfl ?_
            refine QL.pass (t := 31) rfl rfl rfl rfl ?_
            refine QL.pass (t := 31) rfl rfl rfl rfl ?_
            refine QL.pass (t := 31) rfl rfl rfl rfl ?_
            refine QL.pass (t := 31) rfl rfl rfl rfl ?_
            refine QL.pass (t := 31) rfl rfl rfl rfl ?_
            refine QL.pass (t := 31) rfl rfl rfl rfl ?_
            refine QL.y rfl (y_pickT (v := .bool _) rfl rfl) ?_
            refine QL.nil (fun w5 hE5 => ?_)
            refine Fin.next ?_
            refine CW.condT rfl rfl ?_
            refine CW.seq ?_
            refine CW.region ?_
            refine RL.y rfl (y_asg rfl) ?_
            refine RL.nil ?_
            refine Fin.next ?_
            refine CW.ret ?_
            refine Fin.blockRet ?_
            refine Fin.thenRet ?_
            refine Fin.thenRet ?_
            refine Fin.blockRet ?_
            refine Fin.thenRet ?_
            refine Fin.ret1 rfl (by conv => lhs; whnf) ?_
            exact ⟨_, rfl, bF (fun h => by have := (h.2.2 _ (List.getElem_mem hltk)).1; omega), hE03.trans (hE4.trans hE5)⟩
          · with_reducible first | (replace h3 := deNF h3) | (replace h3 := of_decide_eq_true h3) | (replace h3 := of_decide_eq_false h3) | (replace h3 := deNT h3) | (replace h3 := deNN h3) | (replace h3 := bnT h3) | (replace h3 := bnF h3) | skip
            refine QL.take (t := 31) rfl rfl rfl ?_
            refine QL.y rfl (y_fa fa28_0 rfl rfl) ?_
            refine QL.take (t := 31) rfl rfl rfl ?_
            refine QL.y rfl (y_loadv sc26 (fun _ hC => (hW3.ext hE4).ext hC) rfl rfl) ?_
            refine QL.take (t := 31) rfl rfl rfl ?_
            refine QL.y rfl (y_mov (v := .int _ _) rfl) ?_
            refine QL.take (t := 31) rfl rfl rfl ?_
            refine QL.y rfl (y_ixa sT26 (fun _ hC => (hc3.1.ext hE4).ext hC) (k := k) (hc.lt hltk) rfl rfl) ?_
            refine QL.take (t := 31) rfl rfl rfl ?_
            refine QL.y rfl (y_load sc29 (fun _ hC => (hc3.1.ext hE4).ext hC) (hc.at hltk) rfl) ?_
            refine QL.take (t := 31) rfl rfl rfl ?_
            refine QL.y rfl (y_fa fa25_1 rfl rfl) ?_
            refine QL.take (t := 31) rfl rfl rfl ?_
            refine QL.y rfl (y_loadv sc2 (fun _ hC => (hV3.ext hE4).ext hC) rfl rfl) ?_
            refine QL.take (t := 31) rfl rfl rfl ?_
            refine QL.call rfl (fun _ hC => qc hC (l01Rises_any (((hc3.row hltk).ext hE4).ext hC))) ?_
            refine QL.take (t := 31) rfl rfl rfl ?_
            refine QL.y rfl (y_not rfl) ?_
            refine QL.y rfl (y_pickF (v := .bool _) rfl rfl) ?_
            refine QL.nil (fun w5 hE5 => ?_)
            refine Fin.next ?_
            refine CW.cond rfl rfl (fun h4 => ?_) (fun h4 => ?_)
            · with_reducible first | (replace h4 := deNF h4) | (replace h4 := of_decide_eq_true h4) | (replace h4 := of_decide_eq_false h4) | (replace h4 := deNT h4) | (replace h4 := deNN h4) | (replace h4 := bnT h4) | (replace h4 := bnF h4) | skip
              refine CW.seq ?_
              refine CW.region ?_
              refine RL.y rfl (y_asg rfl) ?_
              refine RL.nil ?_
              refine Fin.next ?_
              refine CW.ret ?_
              refine Fin.blockRet ?_
              refine Fin.thenRet ?_
              refine Fin.thenRet ?_
              refine Fin.blockRet ?_
              refine Fin.thenRet ?_
              refine Fin.ret1 rfl (by conv => lhs; whnf) ?_
              exact ⟨_, rfl, bF (fun h => h4 (h.2.2 _ (List.getElem_mem hltk)).2), hE03.trans (hE4.trans hE5)⟩
            · with_reducible first | (replace h4 := deNF h4) | (replace h4 := of_decide_eq_true h4) | (replace h4 := of_decide_eq_false h4) | (replace h4 := deNT h4) | (replace h4 := deNN h4) | (replace h4 := bnT h4) | (replace h4 := bnF h4) | skip
              refine CW.skip ?_
              refine Fin.blockNormal ?_
              refine Fin.next ?_
              refine CW.region ?_
              refine RL.y rfl (y_mov (v := .int _ _) rfl) ?_
              refine RL.y rfl (y_add rfl rfl (IntWalk.i64_in _ (by omega))) ?_
              refine RL.y rfl (y_asg (v := .int _ _) rfl) ?_
              refine RL.nil ?_
              refine Fin.le ?_
              exact ⟨ss.length - (k + 1), by omega, k + 1, rfl, hltk, ⟨rfl, rfl, rfl, trivial⟩, all_snoc hltk hall ⟨by omega, h4⟩, hE4.trans hE5⟩
        · with_reducible first | (replace hck := deNF hck) | (replace hck := of_decide_eq_true hck) | (replace hck := of_decide_eq_false hck) | (replace hck := deNT hck) | (replace hck := deNN hck) | (replace hck := bnT hck) | (replace hck := bnF hck) | skip
          obtain rfl : ss.length = k := by omega
          refine CW.exit ?_
          refine Fin.thenExit ?_
          refine Fin.thenExit ?_
          refine Fin.blockHit ?_
          refine Fin.next ?_
          refine CW.seq ?_
          refine CW.region ?_
          refine RL.y rfl (y_asg rfl) ?_
          refine RL.nil ?_
          refine Fin.next ?_
          refine CW.ret ?_
          refine Fin.ret1 rfl (by conv => lhs; whnf) ?_
          exact ⟨_, rfl, bT ⟨h1, h2, by simpa using hall⟩, hE03.trans hE4⟩

theorem isLock_any {w : World} {q : Mk} {v : Value} {ss : List (List Int)} (hv : RdL w v ss) :
    Does Try.prog 102 #[mkA q, v] w (fun r w' => r = .bool (decide (lckS q ss)) ∧ Ext w w') := by
  obtain ⟨vl, rfl, cs, hc⟩ := hv
  have hcl := hc.le
  refine enter Try.func102 rfl 31 Try.ntmps102 rfl (by kernel_rfl) ?_
  refine CW.seq ?_
  refine CW.region ?_
  refine RL.box (cs := [.int .i64 q.ch, .int .i64 q.dp, .int .i64 q.st, .int .i64 q.sm, .int .i64 q.le]) rfl rfl rfl (fun w1 hV hE1 => ?_)
  refine RL.box (cs := [vl]) rfl rfl rfl (fun w2 hW hE2 => ?_)
  have hE02 := hE1.trans hE2
  have hc2 := hc.ext hE02
  refine RL.y rfl (y_asg rfl) ?_
  refine RL.nil ?_
  refine Fin.next ?_
  refine CW.seq ?_
  refine CW.seq ?_
  refine CW.region ?_
  refine RL.y rfl (y_fa fa28_0 rfl rfl) ?_
  refine RL.y rfl (y_loadv sc26 (eqw (hW)) rfl rfl) ?_
  refine RL.y rfl (y_len sT26 hc.1 hc.2.1 rfl) ?_
  refine RL.y rfl (y_mov rfl) ?_
  refine RL.nil ?_
  refine Fin.next ?_
  refine CW.block ?_
  refine CW.loop (fun m E w' => ∃ k : Nat, m = ss.length - k ∧ k ≤ ss.length ∧ agrees E [(2, .pointer (some ⟨w.heap.size, 0, none⟩)), (3, .pointer (some ⟨w1.heap.size, 0, none⟩)), (8, vl), (9, .int .i64 ss.length), (10, .int .i64 (k : Int))] ∧ (∀ r ∈ ss.take k, 0 < r.length ∧ rises r q.dp) ∧ w2 = w') _ ⟨0, rfl, Nat.zero_le _, ⟨rfl, rfl, rfl, rfl, rfl, trivial⟩, by simp, rfl⟩ ?_
  · rintro m E w4 ⟨k, rfl, hkk, hagk, hall, rfl⟩
    refine CW.re _ hagk rfl ?_
    clear hagk
    refine CW.seq ?_
    refine CW.region ?_
    refine RL.y rfl (y_lt rfl rfl) ?_
    refine RL.nil ?_
    refine Fin.next ?_
    refine CW.seq ?_
    refine CW.cond rfl rfl (fun hck => ?_) (fun hck => ?_)
    · with_reducible first | (replace hck := deNF hck) | (replace hck := of_decide_eq_true hck) | (replace hck := of_decide_eq_false hck) | (replace hck := deNT hck) | (replace hck := deNN hck) | (replace hck := bnT hck) | (replace hck := bnF hck) | skip
      have hltk : k < ss.length := by omega
      refine CW.skip ?_
      refine Fin.next ?_
      refine CW.seq ?_
      refine CW.block ?_
      refine CW.seq ?_
      refine CW.region ?_
      refine RL.y rfl (y_ixa sT26 (eqw (hc2.1)) (k := k) (hc.lt hltk) rfl rfl) ?_
      refine RL.y rfl (y_load sc29 (eqw (hc2.1)) (hc.at hltk) rfl) ?_
      refine RL.y rfl (y_asg (by conv => lhs; whnf)) ?_
      refine RL.nil ?_
      refine Fin.next ?_
      refine CW.seq ?_
      refine CW.region ?_
      refine RL.y rfl (y_mov (by conv => lhs; whnf)) ?_
      refine RL.y rfl (y_len sT29 (hc.row hltk) (ints_len _) rfl) ?_
      refine RL.y rfl (y_eq rfl rfl) ?_
      refine RL.y rfl (y_mov (v := .bool _) rfl) ?_
      refine RL.split (t := 17) rfl rfl (fun h3 => ?_) (fun h3 => ?_)
      · with_reducible first | (replace h3 := deNF h3) | (replace h3 := of_decide_eq_true h3) | (replace h3 := of_decide_eq_false h3) | (replace h3 := deNT h3) | (replace h3 := deNN h3) | (replace h3 := bnT h3) | (replace h3 := bnF h3) | skip
        refine RL.pass (t := 17) rfl rfl rfl rfl ?_
        refine RL.pass (t := 17) rfl rfl rfl rfl ?_
        refine RL.pass (t := 17) rfl rfl rfl rfl ?_
        refine RL.pass (t := 17) rfl rfl rfl rfl ?_
        refine RL.pass (t := 17) rfl rfl rfl rfl ?_
        refine RL.y rfl (y_pickT (v := .bool _) rfl rfl) ?_
        refine RL.nil ?_
        refine Fin.next ?_
        refine CW.condT rfl rfl ?_
        refine CW.seq ?_
        refine CW.region ?_
        refine RL.y rfl (y_asg rfl) ?_
        refine RL.nil ?_
        refine Fin.next ?_
        refine CW.ret ?_
        refine Fin.blockRet ?_
        refine Fin.thenRet ?_
        refine Fin.thenRet ?_
        refine Fin.blockRet ?_
        refine Fin.thenRet ?_
        refine Fin.ret1 rfl (by conv => lhs; whnf) ?_
        exact ⟨_, rfl, bF (fun h => by have := (h.2 _ (List.getElem_mem hltk)).1; omega), hE02⟩
      · with_reducible first | (replace h3 := deNF h3) | (replace h3 := of_decide_eq_true h3) | (replace h3 := of_decide_eq_false h3) | (replace h3 := deNT h3) | (replace h3 := deNN h3) | (replace h3 := bnT h3) | (replace h3 := bnF h3) | skip
        refine RL.take (t := 17) rfl rfl rfl ?_
        refine RL.y rfl (y_mov (by conv => lhs; whnf)) ?_
        refine RL.take (t := 17) rfl rfl rfl ?_
        refine RL.y rfl (y_fa fa25_1 rfl rfl) ?_
        refine RL.take (t := 17) rfl rfl rfl ?_
        refine RL.y rfl (y_loadv sc2 (eqw (hV.ext hE2)) rfl rfl) ?_
        refine RL.take (t := 17) rfl rfl rfl ?_
        refine RL.call rfl (IsRising_any (hc2.row hltk)) ?_
        rintro r w5 ⟨rfl, rfl⟩
        refine RL.take (t := 17) rfl rfl rfl ?_
        refine RL.y rfl (y_not rfl) ?_
        refine RL.y rfl (y_pickF (v := .bool _) rfl rfl) ?_
        refine RL.nil ?_
        refine Fin.next ?_
        refine CW.cond rfl rfl (fun h4 => ?_) (fun h4 => ?_)
        · with_reducible first | (replace h4 := deNF h4) | (replace h4 := of_decide_eq_true h4) | (replace h4 := of_decide_eq_false h4) | (replace h4 := deNT h4) | (replace h4 := deNN h4) | (replace h4 := bnT h4) | (replace h4 := bnF h4) | skip
          refine CW.seq ?_
          refine CW.region ?_
          refine RL.y rfl (y_asg rfl) ?_
          refine RL.nil ?_
          refine Fin.next ?_
          refine CW.ret ?_
          refine Fin.blockRet ?_
          refine Fin.thenRet ?_
          refine Fin.thenRet ?_
          refine Fin.blockRet ?_
          refine Fin.thenRet ?_
          refine Fin.ret1 rfl (by conv => lhs; whnf) ?_
          exact ⟨_, rfl, bF (fun h => h4 (h.2 _ (List.getElem_mem hltk)).2), hE02⟩
        · with_reducible first | (replace h4 := deNF h4) | (replace h4 := of_decide_eq_true h4) | (replace h4 := of_decide_eq_false h4) | (replace h4 := deNT h4) | (replace h4 := deNN h4) | (replace h4 := bnT h4) | (replace h4 := bnF h4) | skip
          refine CW.skip ?_
          refine Fin.blockNormal ?_
          refine Fin.next ?_
          refine CW.region ?_
          refine RL.y rfl (y_add rfl rfl (IntWalk.i64_in _ (by omega))) ?_
          refine RL.y rfl (y_mov (v := .int _ _) rfl) ?_
          refine RL.nil ?_
          refine Fin.le ?_
          exact ⟨ss.length - (k + 1), by omega, k + 1, rfl, hltk, ⟨rfl, rfl, rfl, rfl, rfl, trivial⟩, all_snoc hltk hall ⟨by omega, h4⟩, rfl⟩
    · with_reducible first | (replace hck := deNF hck) | (replace hck := of_decide_eq_true hck) | (replace hck := of_decide_eq_false hck) | (replace hck := deNT hck) | (replace hck := deNN hck) | (replace hck := bnT hck) | (replace hck := bnF hck) | skip
      obtain rfl : ss.length = k := by omega
      refine CW.exit ?_
      refine Fin.thenExit ?_
      refine Fin.thenExit ?_
      refine Fin.blockHit ?_
      refine Fin.next ?_
      refine CW.seq ?_
      refine CW.region ?_
      refine RL.y rfl (y_fa fa28_0 rfl rfl) ?_
      refine RL.y rfl (y_loadv sc26 (eqw (hW)) rfl rfl) ?_
      refine RL.y rfl (y_len sT26 hc.1 hc.2.1 rfl) ?_
      refine RL.y rfl (y_fa fa25_0 rfl rfl) ?_
      refine RL.y rfl (y_loadv sc2 (eqw (hV.ext hE2)) rfl rfl) ?_
      refine RL.y rfl (y_eq rfl rfl) ?_
      refine RL.y rfl (y_asg (v := .bool _) rfl) ?_
      refine RL.nil ?_
      refine Fin.next ?_
      refine CW.ret ?_
      refine Fin.ret1 rfl (by conv => lhs; whnf) ?_
      exact ⟨_, rfl, bD ⟨fun h => ⟨h, by simpa using hall⟩, fun h => h.1⟩, hE02⟩
end Go.Proofs.Ytaepdknmagaokaa
