/-
  Opening a lock; what the laws on wear say, in plain terms.
-/
import Derived.Test.YtaepdknmagaokaaFDrawW2
import Derived.Test.YtaepdknmagaokaaFLikeL
namespace Go.Proofs.Ytaepdknmagaokaa
open B Go.RowKit

theorem likeLocks_any {w : World} {v u : Value} {ss ts : List (List Int)} (hv : RdL w v ss) (hu : RdL w u ts) :
    Does Try.prog 47 #[v, u] w (fun r w' => r = .bool (decide (ss = ts)) ∧ Ext w w') := by
  obtain ⟨vl, rfl, hr⟩ := hv
  obtain ⟨ul, rfl, hq⟩ := hu
  refine enter Try.func47 rfl 10 Try.ntmps47 rfl (by kernel_rfl) ?_
  refine CW.seq ?_
  refine CW.region ?_
  refine RL.box (cs := [vl]) rfl rfl rfl (fun w1 hV hE1 => ?_)
  refine RL.box (cs := [ul]) rfl rfl rfl (fun w2 hW hE2 => ?_)
  have hE12 := hE1.trans hE2
  refine RL.y rfl (y_asg rfl) ?_
  refine RL.nil ?_
  refine Fin.next ?_
  refine CW.seq ?_
  refine CW.region ?_
  refine RL.y rfl (y_fa fa28_0 rfl rfl) ?_
  refine RL.y rfl (y_loadv sc26 (eqw (hV.ext hE2)) rfl rfl) ?_
  refine RL.y rfl (y_fa fa28_0 rfl rfl) ?_
  refine RL.y rfl (y_loadv sc26 (eqw (hW)) rfl rfl) ?_
  refine RL.call rfl (likeLists_any (hr.ext hE12) (hq.ext hE12)) ?_
  rintro r w3 ⟨rfl, hE3⟩
  refine RL.y rfl (y_asg (v := .bool _) rfl) ?_
  refine RL.nil ?_
  refine Fin.next ?_
  refine CW.ret ?_
  refine Fin.ret1 rfl (by conv => lhs; whnf) ?_
  exact ⟨_, rfl, rfl, hE12.trans hE3⟩

/-- Do the first k cuts lie in their sets? -/
def opT (ss : List (List Int)) (cs : List Int) (k : Nat) : Prop := ∀ i, i < k → cs.getD i 0 ∈ ss.getD i []
instance (ss : List (List Int)) (cs : List Int) (k : Nat) : Decidable (opT ss cs k) := by unfold opT; infer_instance
def opC (q : Mk) (ss : List (List Int)) (cs : List Int) : Int := if ¬ lck q ss then 1 else if key q cs then 0 else 2
def opV (q : Mk) (ss : List (List Int)) (cs : List Int) : Prop := opC q ss cs = 0 ∧ opT ss cs cs.length
instance (q : Mk) (ss : List (List Int)) (cs : List Int) : Decidable (opV q ss cs) := by unfold opV; infer_instance
theorem opC_zero {q : Mk} {ss : List (List Int)} {cs : List Int} : opC q ss cs = 0 ↔ lck q ss ∧ key q cs := by
  unfold opC
  by_cases h : lck q ss
  · rw [if_neg (not_not_intro h)]
    by_cases h2 : key q cs
    · rw [if_pos h2]; exact ⟨fun _ => ⟨h, h2⟩, fun _ => rfl⟩
    · rw [if_neg h2]; exact ⟨fun e => by omega, fun e => absurd e.2 h2⟩
  · rw [if_pos h]; exact ⟨fun e => by omega, fun e => absurd e.1 h⟩

theorem opens_any {w : World} {v u : Value} {ss : List (List Int)} {cs : List Int} (hv : RdL w v ss) (hu : SI w u cs) (hl : cs.length ≤ ss.length) :
    Does Try.prog 81 #[v, u] w (fun r w' => r = .bool (decide (opT ss cs cs.length)) ∧ Ext w w') := by
  obtain ⟨vl, rfl, vs, hr⟩ := hv
  have hul := SI.le hu
  refine enter Try.func81 rfl 23 Try.ntmps81 rfl (by kernel_rfl) ?_
  refine CW.seq ?_
  refine CW.region ?_
  refine RL.box (cs := [vl]) rfl rfl rfl (fun w1 hW hE1 => ?_)
  refine RL.y rfl (y_asg rfl) ?_
  refine RL.nil ?_
  refine Fin.next ?_
  refine CW.seq ?_
  refine CW.seq ?_
  refine CW.region ?_
  refine RL.y rfl (y_mov (by conv => lhs; whnf)) ?_
  refine RL.y rfl (y_len sT29 hu (ints_len _) rfl) ?_
  refine RL.y rfl (y_mov rfl) ?_
  refine RL.nil ?_
  refine Fin.next ?_
  refine CW.block ?_
  refine CW.loop (fun m E w' => ∃ k : Nat, m = cs.length - k ∧ k ≤ cs.length ∧ agrees E [(2, .pointer (some ⟨w.heap.size, 0, none⟩)), (1, u), (7, u), (8, .int .i64 (cs.length : Int)), (9, .int .i64 (k : Int))] ∧ opT ss cs k ∧ w1 = w') _ ⟨0, rfl, Nat.zero_le _, ⟨rfl, rfl, rfl, rfl, rfl, trivial⟩, (fun i hi => absurd hi (Nat.not_lt_zero i)), rfl⟩ ?_
  · rintro m E w2 ⟨k, rfl, hkk, hagk, hop, rfl⟩
    refine CW.re _ hagk rfl ?_
    clear hagk
    refine CW.seq ?_
    refine CW.region ?_
    refine RL.y rfl (y_lt rfl rfl) ?_
    refine RL.nil ?_
    refine Fin.next ?_
    refine CW.seq ?_
    refine CW.cond rfl rfl (fun hck => ?_) (fun hck => ?_)
    · with_reducible first | (replace hck := deNF hck) | (replace hck := of_decide_eq_true hck) | (replace hck := of_decide_eq_false hck) | (replace hck := deNT hck) | (replace hck := deNN hck) | (replace hck := bnT hck) | (replace hck := bnF hck) | skip
      have hltk : k < cs.length := by omega
      have hlts : k < ss.length := by omega
      have g0 : cs.getD k 0 = cs[k] := getD_lt hltk
      have g1 : ss.getD k [] = ss[k] := getD_lt hlts
      refine CW.skip ?_
      refine Fin.next ?_
      refine CW.seq ?_
      refine CW.block ?_
      refine CW.seq ?_
      refine CW.region ?_
      refine RL.y rfl (y_mov (v := .int _ _) rfl) ?_
      refine RL.y rfl (y_ixa sT29 (eqw (hu.ext hE1)) (k := k) (ints_lt hltk) rfl rfl) ?_
      refine RL.y rfl (y_load sc2 (eqw (hu.ext hE1)) (ints_at hltk) rfl) ?_
      refine RL.y rfl (y_asg (v := .int _ _) rfl) ?_
      refine RL.y rfl (y_asg (v := .int _ _) rfl) ?_
      refine RL.nil ?_
      refine Fin.next ?_
      refine CW.seq ?_
      refine CW.region ?_
      refine RL.y rfl (y_fa fa28_0 rfl rfl) ?_
      refine RL.y rfl (y_loadv sc26 (eqw (hW)) rfl rfl) ?_
      refine RL.y rfl (y_mov (v := .int _ _) rfl) ?_
      refine RL.y rfl (y_ixa sT26 (eqw (hr.1.ext hE1)) (k := k) (hr.lt hlts) rfl rfl) ?_
      refine RL.y rfl (y_load sc29 (eqw (hr.1.ext hE1)) (hr.at hlts) rfl) ?_
      refine RL.y rfl (y_mov (v := .int _ _) rfl) ?_
      refine RL.call rfl (ContainsI_any ((hr.row hlts).ext hE1)) ?_
      rintro r w3 ⟨rfl, rfl⟩
      refine RL.y rfl (y_not rfl) ?_
      refine RL.nil ?_
      refine Fin.next ?_
      refine CW.cond rfl rfl (fun h1 => ?_) (fun h1 => ?_)
      · with_reducible first | (replace h1 := deNF h1) | (replace h1 := of_decide_eq_true h1) | (replace h1 := of_decide_eq_false h1) | (replace h1 := deNT h1) | (replace h1 := deNN h1) | (replace h1 := bnT h1) | (replace h1 := bnF h1) | skip
        refine CW.seq ?_
        refine CW.region ?_
        refine RL.y rfl (y_asg rfl) ?_
        refine RL.nil ?_
        refine Fin.next ?_
        refine CW.ret ?_
        refine Fin.blockRet ?_
        refine Fin.thenRet ?_
        refine Fin.thenRet ?_
        refine Fin.blockRet ?_
        refine Fin.thenRet ?_
        refine Fin.ret1 rfl (by conv => lhs; whnf) ?_
        exact ⟨_, rfl, by rw [decide_eq_false (fun h => h1 (by have := h k hltk; rwa [g0, g1] at this))], hE1⟩
      · with_reducible first | (replace h1 := deNF h1) | (replace h1 := of_decide_eq_true h1) | (replace h1 := of_decide_eq_false h1) | (replace h1 := deNT h1) | (replace h1 := deNN h1) | (replace h1 := bnT h1) | (replace h1 := bnF h1) | skip
        refine CW.skip ?_
        refine Fin.blockNormal ?_
        refine Fin.next ?_
        refine CW.region ?_
        refine RL.y rfl (y_add rfl rfl (IntWalk.i64_in _ (by omega))) ?_
        refine RL.y rfl (y_mov (v := .int _ _) rfl) ?_
        refine RL.nil ?_
        refine Fin.le ?_
        exact ⟨cs.length - (k + 1), by omega, k + 1, rfl, hltk, ⟨rfl, rfl, rfl, rfl, rfl, trivial⟩, (all_succ hop (by rw [g0, g1]; exact h1)), rfl⟩
    · with_reducible first | (replace hck := deNF hck) | (replace hck := of_decide_eq_true hck) | (replace hck := of_decide_eq_false hck) | (replace hck := deNT hck) | (replace hck := deNN hck) | (replace hck := bnT hck) | (replace hck := bnF hck) | skip
      obtain rfl : cs.length = k := by omega
      refine CW.exit ?_
      refine Fin.thenExit ?_
      refine Fin.thenExit ?_
      refine Fin.blockHit ?_
      refine Fin.next ?_
      refine CW.seq ?_
      refine CW.region ?_
      refine RL.y rfl (y_asg rfl) ?_
      refine RL.nil ?_
      refine Fin.next ?_
      refine CW.ret ?_
      refine Fin.ret1 rfl (by conv => lhs; whnf) ?_
      exact ⟨_, rfl, by rw [decide_eq_true hop], hE1⟩

theorem implOpens_any {w : World} {q : Mk} {v u : Value} {ss : List (List Int)} {cs : List Int} (hv : RdL w v ss) (hu : SI w u cs) :
    Does Try.prog 42 #[mkA q, v, u] w (fun r w' => r = .tuple #[.bool (decide (opV q ss cs)), .int .i64 (opC q ss cs)] ∧ Ext w w') := by
  obtain ⟨vl, rfl, vs, hr⟩ := hv
  refine enter Try.func42 rfl 23 Try.ntmps42 rfl (by kernel_rfl) ?_
  refine CW.seq ?_
  refine CW.region ?_
  refine RL.box (cs := [.int .i64 q.ch, .int .i64 q.dp, .int .i64 q.st, .int .i64 q.sm, .int .i64 q.le]) rfl rfl rfl (fun w1 hV hE1 => ?_)
  refine RL.box (cs := [vl]) rfl rfl rfl (fun w2 hW hE2 => ?_)
  have hE02 := hE1.trans hE2
  refine RL.y rfl (y_asg rfl) ?_
  refine RL.y rfl (y_asg rfl) ?_
  refine RL.nil ?_
  refine Fin.next ?_
  refine CW.seq ?_
  refine CW.seq ?_
  refine CW.region ?_
  refine RL.y rfl (y_loads ag25 rfl (eqw (hV.ext hE2)) rfl) ?_
  refine RL.y rfl (y_loads ag28 rfl (eqw (hW)) rfl) ?_
  refine RL.litL rfl lT66 (slice_one hr.1) rfl (fun ul wl hL hEl => ?_)
  have hE0l := hE02.trans hEl
  refine RL.call rfl (locksCode_any (RdLs.one hL ⟨vs, hr.ext hE0l⟩)) ?_
  rintro r w4 ⟨rfl, hE4⟩
  rw [coC_lc]
  have hE24 := hEl.trans hE4
  have hE04 := hE02.trans hE24
  refine RL.y rfl (y_asg (v := .int _ _) rfl) ?_
  refine RL.nil ?_
  refine Fin.next ?_
  refine CW.seq ?_
  refine CW.region ?_
  refine RL.y rfl (y_mov (v := .int _ _) rfl) ?_
  refine RL.y rfl (y_ne rfl rfl) ?_
  refine RL.nil ?_
  refine Fin.next ?_
  refine CW.cond rfl rfl (fun h1 => ?_) (fun h1 => ?_)
  · with_reducible first | (replace h1 := deNF h1) | (replace h1 := of_decide_eq_true h1) | (replace h1 := of_decide_eq_false h1) | (replace h1 := deNT h1) | (replace h1 := deNN h1) | (replace h1 := bnT h1) | (replace h1 := bnF h1) | skip
    have hnl : ¬ lck q ss := fun h => h1 (coC_zero.2 h)
    have hoc : opC q ss cs = 1 := by unfold opC; rw [if_pos hnl]
    have hcc : coC q ss = 1 := by unfold coC; rw [if_neg hnl]
    refine CW.seq ?_
    refine CW.region ?_
    refine RL.y rfl (y_mov (v := .int _ _) rfl) ?_
    refine RL.y rfl (y_asg rfl) ?_
    refine RL.y rfl (y_asg (v := .int _ _) rfl) ?_
    refine RL.nil ?_
    refine Fin.next ?_
    refine CW.ret ?_
    refine Fin.thenRet ?_
    refine Fin.ret2 rfl (by conv => lhs; whnf) (by conv => lhs; whnf) ?_
    exact ⟨_, rfl, by rw [decide_eq_false (fun h => by have := h.1; omega), hoc, hcc], hE04⟩
  · with_reducible first | (replace h1 := deNF h1) | (replace h1 := of_decide_eq_true h1) | (replace h1 := of_decide_eq_false h1) | (replace h1 := deNT h1) | (replace h1 := deNN h1) | (replace h1 := bnT h1) | (replace h1 := bnF h1) | skip
    have hl := coC_zero.1 h1
    refine CW.skip ?_
    refine Fin.next ?_
    refine CW.seq ?_
    refine CW.seq ?_
    refine CW.region ?_
    refine RL.y rfl (y_loads ag25 rfl (eqw ((hV.ext hE2).ext hE24)) rfl) ?_
    refine RL.y rfl (y_mov (by conv => lhs; whnf)) ?_
    refine RL.call rfl (isKey_any hl.1 (hu.ext hE04)) ?_
    rintro r w5 ⟨rfl, hE5⟩
    have hE05 := hE04.trans hE5
    refine RL.y rfl (y_not rfl) ?_
    refine RL.nil ?_
    refine Fin.next ?_
    refine CW.cond rfl rfl (fun h2 => ?_) (fun h2 => ?_)
    · with_reducible first | (replace h2 := deNF h2) | (replace h2 := of_decide_eq_true h2) | (replace h2 := of_decide_eq_false h2) | (replace h2 := deNT h2) | (replace h2 := deNN h2) | (replace h2 := bnT h2) | (replace h2 := bnF h2) | skip
      have hoc : opC q ss cs = 2 := by unfold opC; rw [if_neg (not_not_intro hl), if_neg h2]
      refine CW.seq ?_
      refine CW.region ?_
      refine RL.y rfl (y_asg rfl) ?_
      refine RL.y rfl (y_asg rfl) ?_
      refine RL.nil ?_
      refine Fin.next ?_
      refine CW.ret ?_
      refine Fin.thenRet ?_
      refine Fin.ret2 rfl (by conv => lhs; whnf) (by conv => lhs; whnf) ?_
      exact ⟨_, rfl, by rw [decide_eq_false (fun h => by have := h.1; omega), hoc], hE05⟩
    · with_reducible first | (replace h2 := deNF h2) | (replace h2 := of_decide_eq_true h2) | (replace h2 := of_decide_eq_false h2) | (replace h2 := deNT h2) | (replace h2 := deNN h2) | (replace h2 := bnT h2) | (replace h2 := bnF h2) | skip
      have hoc : opC q ss cs = 0 := opC_zero.2 ⟨hl, h2⟩
      refine CW.skip ?_
      refine Fin.next ?_
      refine CW.seq ?_
      refine CW.region ?_
      refine RL.y rfl (y_loads ag28 rfl (eqw (hW.ext (hE24.trans hE5))) rfl) ?_
      refine RL.y rfl (y_mov (by conv => lhs; whnf)) ?_
      refine RL.call rfl (opens_any ⟨vl, rfl, vs, hr.ext hE05⟩ (hu.ext hE05) (by have := hl.2.1; have := h2.1; omega)) ?_
      rintro r w6 ⟨rfl, hE6⟩
      refine RL.y rfl (y_asg (v := .bool _) rfl) ?_
      refine RL.y rfl (y_asg rfl) ?_
      refine RL.nil ?_
      refine Fin.next ?_
      refine CW.ret ?_
      refine Fin.ret2 rfl (by conv => lhs; whnf) (by conv => lhs; whnf) ?_
      exact ⟨_, rfl, by rw [hoc]; exact congrArg (fun b => Value.tuple #[.bool b, .int .i64 0]) (decide_eq_decide.2 ⟨fun h => ⟨hoc, h⟩, fun h => h.2⟩), hE05.trans hE6⟩

/-! ### Plain facts -/
theorem cnt_iff {set : List Int} {c t : Int} {n : Nat} : 0 < cnt set c n t ↔ ∃ w : Nat, w < n ∧ fre set (10 * c + (w : Int)) t := by
  unfold cnt
  rw [List.length_pos_iff_exists_mem]
  constructor
  · rintro ⟨x, hx⟩
    obtain ⟨i, hi, h, _⟩ := mem_idxs.1 hx
    exact ⟨i, hi, by simpa using h⟩
  · rintro ⟨i, hi, h⟩
    exact ⟨(i : Int), mem_idxs.2 ⟨i, hi, by simpa using h, rfl⟩⟩
theorem cnt_self {set : List Int} {c t : Int} {n : Nat} (h : c ∈ set) (hn : 0 < n) (ht : 0 ≤ t) : 0 < cnt set c n t := cnt_iff.2 ⟨0, hn, c, h, by simp; omega⟩
theorem wnS_mem {q : Mk} {set : List Int} {n : Nat} {t x : Int} (hx : 0 ≤ x ∧ x ≤ q.dp - 1) : x ∈ wnS q set n t q.dp.toNat ↔ 0 < cnt set x n t := by
  unfold wnS
  rw [mem_idxs]
  constructor
  · rintro ⟨i, _, h, rfl⟩; simpa using h
  · intro h
    have e : ((x.toNat : Nat) : Int) = x := by omega
    exact ⟨x.toNat, by omega, by rw [e]; simpa using h, e.symm⟩
theorem idxs_up {p : Nat → Bool} : ∀ k : Nat, ∀ i, i < (idxs p k).length → 0 ≤ (idxs p k).getD i 0 ∧ (idxs p k).getD i 0 < (k : Int) ∧ (0 < i → (idxs p k).getD (i - 1) 0 < (idxs p k).getD i 0)
  | 0, i, h => by simp [idxs_zero] at h
  | k + 1, i, h => by
    cases hp : p k
    · rw [idxs_no hp] at h ⊢
      obtain ⟨h1, h2, h3⟩ := idxs_up k i h
      exact ⟨h1, by omega, h3⟩
    · rw [idxs_yes hp] at h ⊢
      rw [List.length_append, List.length_singleton] at h
      by_cases e : i < (idxs p k).length
      · obtain ⟨h1, h2, h3⟩ := idxs_up k i e
        rw [getD_app e]
        refine ⟨h1, by omega, fun h0 => ?_⟩
        rw [getD_app (by omega)]
        exact h3 h0
      · have e2 : i = (idxs p k).length := by omega
        subst e2
        rw [getD_last]
        refine ⟨by omega, by omega, fun h0 => ?_⟩
        rw [getD_app (by omega)]
        exact (idxs_up k _ (by omega)).2.1
theorem wn_lck {q : Mk} {ss : List (List Int)} {a t : Int} (h : loC q ss a t = 0) : lck q (wnV q ss a t) := by
  obtain ⟨hl, hn⟩ := loC_zero.1 h
  obtain ⟨hm, h1, h2⟩ := id hl
  obtain ⟨m1, m2, _⟩ := id hm
  rw [wn_ok h]
  refine ⟨hm, by rw [wnL_len]; exact h1, fun r hr => ?_⟩
  obtain ⟨set, hs, rfl⟩ := List.mem_map.1 hr
  obtain ⟨h3, h4⟩ := h2 set hs
  have h5 := rises_lt h4 _ (List.getElem_mem h3)
  refine ⟨List.length_pos_iff_exists_mem.2 ⟨set[0], (wnS_mem (by omega)).2 (cnt_self (List.getElem_mem h3) (by have := hn.1; omega) hn.2.1)⟩, fun i hi => ?_⟩
  obtain ⟨g1, g2, g3⟩ := idxs_up _ i hi
  have g4 : (wnS q set (a + 1).toNat t q.dp.toNat).getD i 0 < ((q.dp.toNat : Nat) : Int) := g2
  exact ⟨g1, by omega, g3⟩
theorem wn_row {q : Mk} {ss : List (List Int)} {a t : Int} {i : Nat} {x : Int} (h : loC q ss a t = 0) (hi : i < ss.length) (hx : 0 ≤ x ∧ x ≤ q.dp - 1) : x ∈ (wnV q ss a t).getD i [] ↔ 0 < cnt (ss.getD i []) x (a + 1).toNat t := by
  rw [wn_ok h, wnL_at hi, wnS_mem hx]
theorem worn_facts {q : Mk} {ss : List (List Int)} {cs : List Int} {a t : Int} (h : moC q ss cs a t = 0) :
    loC q ss a t = 0 ∧ opC q (wnV q ss a t) cs = 0 ∧ opC q ss cs = 0 ∧ (opV q (wnV q ss a t) cs ↔ moV q ss cs a t) ∧ (soV q ss cs a t → moV q ss cs a t) ∧ (opV q ss cs → moV q ss cs a t) ∧
      (a ≠ 19 → moC q ss cs (a + 1) t = 0 ∧ (moV q ss cs a t → moV q ss cs (a + 1) t)) := by
  obtain ⟨hl, hn, hk⟩ := moC_zero.1 h
  have hlo : loC q ss a t = 0 := loC_zero.2 ⟨hl, hn⟩
  have hwl := wn_lck hlo
  have hkl := hk.1
  have hsl := hl.2.1
  have hcb : ∀ i (hi : i < cs.length), 0 ≤ cs.getD i 0 ∧ cs.getD i 0 ≤ q.dp - 1 := fun i hi => by rw [getD_lt hi]; exact hk.2.1 _ (List.getElem_mem hi)
  obtain ⟨hn1, hn2⟩ := id hn
  refine ⟨hlo, opC_zero.2 ⟨hwl, hk⟩, opC_zero.2 ⟨hl, hk⟩, ⟨fun h1 => ⟨h, fun i hi => ?_⟩, fun h1 => ⟨opC_zero.2 ⟨hwl, hk⟩, fun i hi => ?_⟩⟩, fun h1 => ⟨h, fun i hi => ?_⟩, fun h1 => ⟨h, fun i hi => ?_⟩, fun h9 => ?_⟩
  · exact (wn_row hlo (by omega) (hcb i hi)).1 (h1.2 i hi)
  · exact (wn_row hlo (by omega) (hcb i hi)).2 (h1.2 i hi)
  · have := h1.2 i hi; omega
  · exact cnt_self (h1.2 i hi) (by omega) hn2.1
  · have h3 : moC q ss cs (a + 1) t = 0 := moC_zero.2 ⟨hl, ⟨⟨by omega, by omega⟩, hn2⟩, hk⟩
    refine ⟨h3, fun h1 => ⟨h3, fun i hi => ?_⟩⟩
    have h4 := h1.2 i hi
    have h5 := (cnt_step (ss.getD i []) (cs.getD i 0) t (a + 1).toNat).1
    rw [show (a + 1 + 1).toNat = (a + 1).toNat + 1 from by omega]
    omega

theorem pre_top {p : Nat → Bool} {k : Nat} : ∀ n, pre p n = k + 1 → p k = true
  | 0, h => by simp [pre] at h
  | n + 1, h => by
    unfold pre at h
    split at h
    · rename_i hc
      obtain rfl : n = k := by omega
      exact hc.2
    · exact pre_top n h
theorem pre_end {p : Nat → Bool} {k : Nat} : ∀ n, pre p n = k → k < n → p k = false
  | 0, _, h => by omega
  | n + 1, h, hk => by
    unfold pre at h
    split at h
    · omega
    · rename_i hc
      by_cases e : k = n
      · subst e
        cases hp : p k
        · rfl
        · exact absurd ⟨h, hp⟩ hc
      · exact pre_end n h (by omega)
theorem moC_at {q : Mk} {ss : List (List Int)} {cs : List Int} {t n : Int} (h : moC q ss cs 0 t = 0) (h0 : 0 ≤ n) (h1 : n ≤ 19) : moC q ss cs n t = 0 := by
  obtain ⟨hl, hn, hk⟩ := moC_zero.1 h
  exact moC_zero.2 ⟨hl, ⟨⟨h0, h1⟩, hn.2⟩, hk⟩
theorem limit_facts {q : Mk} {ss : List (List Int)} {cs : List Int} {t : Int} (h : wlC q ss cs t = 0) :
    (0 ≤ wlV q ss cs t ∧ wlV q ss cs t ≤ 19) ∧ moC q ss cs (wlV q ss cs t) t = 0 ∧ soV q ss cs (wlV q ss cs t) t ∧ (wlV q ss cs t ≠ 19 → moC q ss cs (wlV q ss cs t + 1) t = 0 ∧ ¬ soV q ss cs (wlV q ss cs t + 1) t) := by
  have hv : wlV q ss cs t = (wlN ss cs t 20 : Int) - 1 := by unfold wlV; rw [if_pos h]
  unfold wlC at h
  split at h
  · rename_i h0
    split at h
    · omega
    · rename_i h1
      have hle : wlN ss cs t 20 ≤ 20 := pre_le _ _
      obtain ⟨k, hk⟩ : ∃ k, wlN ss cs t 20 = k + 1 := ⟨wlN ss cs t 20 - 1, by omega⟩
      rw [hv, hk]
      have hp : surTo ss cs (k + 1) t cs.length := by simpa using pre_top 20 hk
      have e1 : (((k + 1 : Nat) : Int) - 1 + 1).toNat = k + 1 := by omega
      refine ⟨by omega, moC_at h0 (by omega) (by omega), ⟨moC_at h0 (by omega) (by omega), by rw [e1]; exact hp⟩, fun h19 => ⟨moC_at h0 (by omega) (by omega), fun hs => ?_⟩⟩
      have he := pre_end 20 hk (by omega)
      have hs2 := hs.2
      rw [show (((k + 1 : Nat) : Int) - 1 + 1 + 1).toNat = k + 1 + 1 from by omega] at hs2
      exact absurd hs2 (by simpa using he)
  · omega
theorem cf_mono {q : Mk} {al al' : Nat → Int → Prop} [∀ i d, Decidable (al i d)] [∀ i d, Decidable (al' i d)] (h : ∀ (i : Nat) (d : Int), (i : Int) < q.ch → 0 ≤ d → d < q.dp → al i d → al' i d) : ∀ (n : Nat) (ks : List Int), (ks.length : Int) + (n : Int) = q.ch → cf q al n ks ≤ cf q al' n ks
  | 0, ks, _ => Nat.le_refl _
  | n + 1, ks, hl => by
    unfold cf
    have : ∀ k, k ≤ q.dp.toNat → sumTo (fun d => if al ks.length (d : Int) ∧ nxt q ks (d : Int) then cf q al n (ks ++ [(d : Int)]) else 0) k ≤ sumTo (fun d => if al' ks.length (d : Int) ∧ nxt q ks (d : Int) then cf q al' n (ks ++ [(d : Int)]) else 0) k := fun k => by
      induction k with
      | zero => intro _; exact Nat.le_refl _
      | succ k ih =>
        intro hk
        have h1 := ih (by omega)
        have h2 : (if al ks.length (k : Int) ∧ nxt q ks (k : Int) then cf q al n (ks ++ [(k : Int)]) else 0) ≤ (if al' ks.length (k : Int) ∧ nxt q ks (k : Int) then cf q al' n (ks ++ [(k : Int)]) else 0) := by
          by_cases hc : al ks.length (k : Int) ∧ nxt q ks (k : Int)
          · rw [if_pos hc, if_pos ⟨h _ _ (by omega) (by omega) (by omega) hc.1, hc.2⟩]
            exact cf_mono h n _ (by simp; omega)
          · rw [if_neg hc]; exact Nat.zero_le _
        simp only [sumTo]; omega
    exact this _ (Nat.le_refl _)
theorem count_facts {q : Mk} {ss : List (List Int)} {a t : Int} (h : loC q ss a t = 0) : coC q ss = 0 ∧ coV q ss ≤ cmV q ss a t := by
  obtain ⟨hl, hn⟩ := loC_zero.1 h
  have hc := coC_zero.2 hl
  have hsl := hl.2.1
  have m1 := hl.1.1
  refine ⟨hc, ?_⟩
  unfold coV cmV
  rw [if_pos hc, if_pos h]
  have : opN q ss ≤ opN q (wnV q ss a t) := cf_mono (fun i d h1 h2 h3 h4 => (wn_row h (by omega) (by omega)).2 (cnt_self h4 (by have := hn.1; omega) hn.2.1)) _ _ (by simp; omega)
  omega

theorem nb_pos {q : Mk} {cs : List Int} {a t : Int} (h : nbC q cs a t = 0) : 1 ≤ nbV q cs a t := by
  obtain ⟨hm, hn, h1, h2, h3, h4, h5⟩ := nbC_zero.1 h
  have m1 := hm.1
  unfold nbV; rw [if_pos h, nbN_keys]
  have hk := key_mem h2 ⟨h3, h4⟩ h5 q.ch.toNat 0 (by omega)
  have : cs ∈ (keysF q q.ch.toNat []).filter (okN cs a t) := List.mem_filter.2 ⟨hk, okN_iff.2 (fun i _ _ => cnt_self (List.mem_singleton.2 rfl) (by have := hn.1; omega) hn.2.1)⟩
  have := List.length_pos_of_mem this
  omega
theorem frL_len {set : List Int} {n t : Int} (hr : rises set n) (h8 : n ≤ 8) (ht : 0 ≤ t) : set.length ≤ (frL set t 81).length := by
  have mono : ∀ (d k : Nat), (frL set t k).length ≤ (frL set t (k + d)).length := fun d k => by
    induction d with
    | zero => exact Nat.le_refl _
    | succ d ih =>
      refine Nat.le_trans ih ?_
      unfold frL
      rw [← Nat.add_assoc]
      cases hp : decide (fre set ((k + d : Nat) : Int) t)
      · rw [idxs_no hp]; exact Nat.le_refl _
      · rw [idxs_yes hp]; simp
  have step : ∀ j, j ≤ set.length → 0 < j → j ≤ (frL set t ((10 * set.getD (j - 1) 0).toNat + 1)).length := fun j => by
    induction j with
    | zero => intro _ h; omega
    | succ j ih =>
      intro hj _
      obtain ⟨g1, g2, g3⟩ := hr j (by omega)
      have hy : decide (fre set (((10 * set.getD j 0).toNat : Nat) : Int) t) = true := decide_eq_true ⟨set.getD j 0, by rw [getD_lt (by omega)]; exact List.getElem_mem _, by omega⟩
      show j + 1 ≤ (frL set t ((10 * set.getD j 0).toNat + 1)).length
      unfold frL
      rw [idxs_yes hy, List.length_append, List.length_singleton]
      by_cases h0 : j = 0
      · omega
      · obtain ⟨p1, p2, _⟩ := hr (j - 1) (by omega)
        have h1 := ih (by omega) (by omega)
        have h2 := g3 (by omega)
        have h3 := mono ((10 * set.getD j 0).toNat - ((10 * set.getD (j - 1) 0).toNat + 1)) ((10 * set.getD (j - 1) 0).toNat + 1)
        rw [show (10 * set.getD (j - 1) 0).toNat + 1 + ((10 * set.getD j 0).toNat - ((10 * set.getD (j - 1) 0).toNat + 1)) = (10 * set.getD j 0).toNat from by omega] at h3
        unfold frL at h1 h3
        omega
  by_cases h0 : set.length = 0
  · omega
  · obtain ⟨g1, g2, _⟩ := hr (set.length - 1) (by omega)
    have h1 := step set.length (Nat.le_refl _) (by omega)
    have h2 := mono (81 - ((10 * set.getD (set.length - 1) 0).toNat + 1)) ((10 * set.getD (set.length - 1) 0).toNat + 1)
    rw [show (10 * set.getD (set.length - 1) 0).toNat + 1 + (81 - ((10 * set.getD (set.length - 1) 0).toNat + 1)) = 81 from by omega] at h2
    omega
theorem free_facts {q : Mk} {ss : List (List Int)} {c t : Int} (h : frC q ss c t = 0) : (0 ≤ c ∧ c.toNat < ss.length) ∧ (∀ r ∈ ss, cuts q r) ∧ q.dp ≤ 8 ∧ (∀ x ∈ ss.getD c.toNat [], 10 * x ∈ frV q ss c t) ∧ (ss.getD c.toNat []).length ≤ (frV q ss c t).length := by
  obtain ⟨hl, hn, hc⟩ := frC_zero.1 h
  have hsl := hl.2.1
  obtain ⟨m1, m2, _⟩ := hl.1
  have hi : c.toNat < ss.length := by omega
  have hr := (hl.2.2 _ (List.getElem_mem hi)).2
  have hv : frV q ss c t = frL (ss.getD c.toNat []) t 81 := by unfold frV; rw [if_pos h]
  have hg : ss.getD c.toNat [] = ss[c.toNat] := getD_lt hi
  refine ⟨⟨hc.1, hi⟩, lck_cuts hl, m2.2, fun x hx => ?_, ?_⟩
  · rw [hg] at hx
    have hx2 := rises_lt hr x hx
    rw [hv, hg]
    unfold frL
    refine mem_idxs.2 ⟨(10 * x).toNat, by omega, decide_eq_true ⟨x, hx, by have := hn.2.1; omega⟩, by omega⟩
  · rw [hv, hg]; exact frL_len hr m2.2 hn.2.1
end Go.Proofs.Ytaepdknmagaokaa
