/-
  Families of side codes: the functions of the reference and of the program.
-/
import Derived.Test.YtfpignajpihgnaaFSide1
import Derived.Test.YtfpignajpihgnaaFNest
import Derived.Test.YtfpignajpihgnaaSide2
import Derived.Test.YtfpignajpihgnaaCut
namespace Go.Proofs.Ytfpignajpihgnaa
open B Go.RowKit

theorem l07At_any {w : World} {s v n : Nat} (hs : sdsys (s : Int) (v : Int)) (hn : n ≤ 15625) :
    Does Try.prog 71 #[.int .i64 (s : Int), .int .i64 (v : Int), .int .i64 (n : Int)] w (fun v' w' => OV w' w.heap.size 2 v' (ints (dig s v n)) ∧ Ext w w' ∧ v'.ownBlock = some w.heap.size) := by
  have hs1 := hs.1
  have hs2 := hs.2
  refine enter Try.func71 rfl 27 Try.ntmps71 rfl (by kernel_rfl) ?_
  refine CW.seq ?_
  refine CW.region ?_
  refine RL.y rfl (y_asg rfl) ?_
  refine RL.nil ?_
  refine Fin.next ?_
  refine CW.seq ?_
  refine CW.region ?_
  refine RL.y rfl (y_mov (v := .int _ _) rfl) ?_
  refine RL.make rfl sT25 (m := s) (by omega) (by omega) rfl (fun vo w1 ho1 hE1 hb1 => ?_)
  refine RL.y rfl (y_asg (by conv => lhs; whnf)) ?_
  refine RL.nil ?_
  refine Fin.next ?_
  refine CW.seq ?_
  refine CW.seq ?_
  refine CW.region ?_
  refine RL.y rfl (y_mov (v := .int _ _) rfl) ?_
  refine RL.y rfl (y_sub rfl rfl (IntWalk.i64_in _ (by omega))) ?_
  refine RL.y rfl (y_asg (v := .int _ _) rfl) ?_
  refine RL.nil ?_
  refine Fin.next ?_
  refine CW.block ?_
  refine CW.loop (fun m E w' => ∃ k : Nat, m = s - k ∧ k ≤ s ∧ agrees E [(1, .int .i64 (v : Int)), (7, vo), (8, .int .i64 (((s - k : Nat) : Int) - 1)), (2, .int .i64 (quoN v n k : Nat))] ∧ OV w' w.heap.size 2 vo (ints (List.replicate (s - k) 0 ++ sufD v n k)) ∧ Ext w w') _ ⟨0, rfl, Nat.zero_le _, ⟨rfl, rfl, rfl, rfl, trivial⟩, by simpa [sufD, ints] using ho1, hE1⟩ ?_
  · rintro m E w2 ⟨k, rfl, hkk, hagk, ho2, hE2⟩
    refine CW.re _ hagk rfl ?_
    clear hagk
    refine CW.seq ?_
    refine CW.seq ?_
    refine CW.region ?_
    refine RL.y rfl (y_mov (v := .int _ _) rfl) ?_
    refine RL.y rfl (y_ge rfl rfl) ?_
    refine RL.nil ?_
    refine Fin.next ?_
    refine CW.cond rfl rfl (fun hck => ?_) (fun hck => ?_)
    · with_reducible first | (replace hck := deNF hck) | (replace hck := of_decide_eq_true hck) | (replace hck := of_decide_eq_false hck) | (replace hck := deNT hck) | (replace hck := deNN hck) | (replace hck := bnT hck) | (replace hck := bnF hck) | skip
      have hltk : k < s := by omega
      have hq := quoN_le (v := v) (n := n) (by omega) k
      have hq2 : quoN v n (k + 1) = quoN v n k / v := rfl
      have hql := quoN_le (v := v) (n := n) (by omega) (k + 1)
      rw [show ((s - k : Nat) : Int) - 1 = ((s - (k + 1) : Nat) : Int) from by omega]
      refine CW.skip ?_
      refine Fin.next ?_
      refine CW.seq ?_
      refine CW.block ?_
      refine CW.seq ?_
      refine CW.region ?_
      refine RL.y rfl (y_mov (by conv => lhs; whnf)) ?_
      refine RL.y rfl (y_mov (v := .int _ _) rfl) ?_
      refine RL.y rfl (y_mov (v := .int _ _) rfl) ?_
      refine RL.y rfl (y_mov (v := .int _ _) rfl) ?_
      refine RL.y rfl (y_rem rfl rfl (by omega) (Int.ofNat_tmod _ _).symm) ?_
      refine RL.y rfl (y_ixa sT25 (eqw (ho2.sv)) (k := s - (k + 1)) (by simp [ints, sufD_len]; omega) rfl rfl) ?_
      refine RL.store sT25 ho2 (k := s - (k + 1)) (x := .int .i64 ((quoN v n k % v : Nat) : Int)) (by simp [ints, sufD_len]; omega) rfl rfl rfl (fun w3 ho3 hg3 => ?_)
      rw [ints_set, dig_step hltk] at ho3
      refine RL.nil ?_
      refine Fin.next ?_
      refine CW.region ?_
      refine RL.y rfl (y_mov (v := .int _ _) rfl) ?_
      refine RL.y rfl (y_mov (v := .int _ _) rfl) ?_
      refine RL.y rfl (y_quo rfl rfl (by omega) (show IntKind.i64.wrap (((quoN v n k : Nat) : Int).tdiv (v : Int)) = ((quoN v n (k + 1) : Nat) : Int) by rw [← Int.ofNat_tdiv, ← hq2]; exact IntWalk.i64_in _ (by omega))) ?_
      refine RL.y rfl (y_asg (v := .int _ _) rfl) ?_
      refine RL.nil ?_
      refine Fin.blockNormal ?_
      refine Fin.next ?_
      refine CW.region ?_
      refine RL.y rfl (y_mov (v := .int _ _) rfl) ?_
      refine RL.y rfl (y_sub rfl rfl (IntWalk.i64_in _ (by omega))) ?_
      refine RL.y rfl (y_asg (v := .int _ _) rfl) ?_
      refine RL.nil ?_
      refine Fin.le ?_
      exact ⟨s - (k + 1), by omega, k + 1, rfl, hltk, ⟨rfl, rfl, rfl, rfl, trivial⟩, ho3, hE2.grown hg3 (fun b hb => (ho2.lt b hb).1)⟩
    · with_reducible first | (replace hck := deNF hck) | (replace hck := of_decide_eq_true hck) | (replace hck := of_decide_eq_false hck) | (replace hck := deNT hck) | (replace hck := deNN hck) | (replace hck := bnT hck) | (replace hck := bnF hck) | skip
      obtain rfl : s = k := by omega
      rw [Nat.sub_self, List.replicate_zero, List.nil_append] at ho2
      refine CW.exit ?_
      refine Fin.thenExit ?_
      refine Fin.thenExit ?_
      refine Fin.blockHit ?_
      refine Fin.next ?_
      refine CW.seq ?_
      refine CW.region ?_
      refine RL.y rfl (y_mov (by conv => lhs; whnf)) ?_
      refine RL.y rfl (y_asg (by conv => lhs; whnf)) ?_
      refine RL.nil ?_
      refine Fin.next ?_
      refine CW.ret ?_
      refine Fin.ret1 rfl (by conv => lhs; whnf) ?_
      exact ⟨_, rfl, ho2, hE2, hb1⟩

theorem l07Apart_any {w : World} {v c : Value} {rs : List (List Int)} {xs : List Int} {d : Int} (hv : RdSS w v rs) (hc : SI w c xs) (hl : ∀ r ∈ rs, r.length = xs.length) :
    Does Try.prog 60 #[v, c, .int .i64 d] w (fun r w' => r = .bool (decide (apart rs xs d)) ∧ Ext w w') := by
  obtain ⟨cs, hv⟩ := hv
  have hxl := hv.le
  refine enter Try.func60 rfl 22 Try.ntmps60 rfl (by kernel_rfl) ?_
  refine CW.seq ?_
  refine CW.region ?_
  refine RL.y rfl (y_asg rfl) ?_
  refine RL.nil ?_
  refine Fin.next ?_
  refine CW.seq ?_
  refine CW.seq ?_
  refine CW.region ?_
  refine RL.y rfl (y_asg rfl) ?_
  refine RL.nil ?_
  refine Fin.next ?_
  refine CW.block ?_
  refine CW.loop (fun m E w' => ∃ k : Nat, m = rs.length - k ∧ k ≤ rs.length ∧ agrees E [(0, v), (1, c), (2, .int .i64 d), (7, .int .i64 (k : Int))] ∧ (∀ r ∈ rs.take k, d ≤ (dif r xs : Nat)) ∧ Ext w w') _ ⟨0, rfl, Nat.zero_le _, ⟨rfl, rfl, rfl, rfl, trivial⟩, by simp, Ext.refl w⟩ ?_
  · rintro m E w2 ⟨k, rfl, hkk, hagk, hall, hE2⟩
    refine CW.re _ hagk rfl ?_
    clear hagk
    refine CW.seq ?_
    refine CW.seq ?_
    refine CW.region ?_
    refine RL.y rfl (y_mov (v := .int _ _) rfl) ?_
    refine RL.y rfl (y_mov (by conv => lhs; whnf)) ?_
    refine RL.y rfl (y_len sT33 hv.1 hv.2.1 rfl) ?_
    refine RL.y rfl (y_lt rfl rfl) ?_
    refine RL.nil ?_
    refine Fin.next ?_
    refine CW.cond rfl rfl (fun hck => ?_) (fun hck => ?_)
    · with_reducible first | (replace hck := deNF hck) | (replace hck := of_decide_eq_true hck) | (replace hck := of_decide_eq_false hck) | (replace hck := deNT hck) | (replace hck := deNN hck) | (replace hck := bnT hck) | (replace hck := bnF hck) | skip
      have hltk : k < rs.length := by omega
      refine CW.skip ?_
      refine Fin.next ?_
      refine CW.seq ?_
      refine CW.block ?_
      refine CW.seq ?_
      refine CW.region ?_
      refine RL.y rfl (y_mov (by conv => lhs; whnf)) ?_
      refine RL.y rfl (y_mov (v := .int _ _) rfl) ?_
      refine RL.y rfl (y_ixa sT33 (eqw (hv.1.ext hE2)) (k := k) (hv.lt hltk) rfl rfl) ?_
      refine RL.y rfl (y_load sc25 (eqw (hv.1.ext hE2)) (hv.at hltk) rfl) ?_
      refine RL.y rfl (y_mov (by conv => lhs; whnf)) ?_
      refine RL.call rfl (l03Difference_any ((hv.row hltk).ext hE2) (hc.ext hE2) (hl _ (List.getElem_mem hltk))) ?_
      rintro r w3 ⟨rfl, hE3⟩
      refine RL.y rfl (y_mov (v := .int _ _) rfl) ?_
      refine RL.y rfl (y_lt rfl rfl) ?_
      refine RL.nil ?_
      refine Fin.next ?_
      refine CW.cond rfl rfl (fun hc2 => ?_) (fun hc2 => ?_)
      · with_reducible first | (replace hc2 := deNF hc2) | (replace hc2 := of_decide_eq_true hc2) | (replace hc2 := of_decide_eq_false hc2) | (replace hc2 := deNT hc2) | (replace hc2 := deNN hc2) | (replace hc2 := bnT hc2) | (replace hc2 := bnF hc2) | skip
        refine CW.seq ?_
        refine CW.region ?_
        refine RL.y rfl (y_asg rfl) ?_
        refine RL.nil ?_
        refine Fin.next ?_
        refine CW.ret ?_
        refine Fin.blockRet ?_
        refine Fin.thenRet ?_
        refine Fin.thenRet ?_
        refine Fin.blockRet ?_
        refine Fin.thenRet ?_
        refine Fin.ret1 rfl (by conv => lhs; whnf) ?_
        exact ⟨_, rfl, bF (fun h => by have := h _ (List.getElem_mem hltk); omega), hE2.trans hE3⟩
      · with_reducible first | (replace hc2 := deNF hc2) | (replace hc2 := of_decide_eq_true hc2) | (replace hc2 := of_decide_eq_false hc2) | (replace hc2 := deNT hc2) | (replace hc2 := deNN hc2) | (replace hc2 := bnT hc2) | (replace hc2 := bnF hc2) | skip
        refine CW.skip ?_
        refine Fin.blockNormal ?_
        refine Fin.next ?_
        refine CW.region ?_
        refine RL.y rfl (y_mov (v := .int _ _) rfl) ?_
        refine RL.y rfl (y_add rfl rfl (IntWalk.i64_in _ (by omega))) ?_
        refine RL.y rfl (y_asg (v := .int _ _) rfl) ?_
        refine RL.nil ?_
        refine Fin.le ?_
        exact ⟨rs.length - (k + 1), by omega, k + 1, rfl, hltk, ⟨rfl, rfl, rfl, rfl, trivial⟩, all_snoc hltk hall (by omega), hE2.trans hE3⟩
    · with_reducible first | (replace hck := deNF hck) | (replace hck := of_decide_eq_true hck) | (replace hck := of_decide_eq_false hck) | (replace hck := deNT hck) | (replace hck := deNN hck) | (replace hck := bnT hck) | (replace hck := bnF hck) | skip
      obtain rfl : rs.length = k := by omega
      refine CW.exit ?_
      refine Fin.thenExit ?_
      refine Fin.thenExit ?_
      refine Fin.blockHit ?_
      refine Fin.next ?_
      refine CW.seq ?_
      refine CW.region ?_
      refine RL.y rfl (y_asg rfl) ?_
      refine RL.nil ?_
      refine Fin.next ?_
      refine CW.ret ?_
      refine Fin.ret1 rfl (by conv => lhs; whnf) ?_
      exact ⟨_, rfl, bT (by unfold apart; simpa using hall), hE2⟩

theorem isFar_any {w : World} {v c : Value} {rs : List (List Int)} {xs : List Int} {d : Int} (hv : RdSS w v rs) (hc : SI w c xs) (hl : ∀ r ∈ rs, r.length = xs.length) :
    Does Try.prog 61 #[c, v, .int .i64 d] w (fun r w' => r = .bool (decide (apart rs xs d)) ∧ Ext w w') := by
  obtain ⟨cs, hv⟩ := hv
  have hxl := hv.le
  refine enter Try.func61 rfl 21 Try.ntmps61 rfl (by kernel_rfl) ?_
  refine CW.seq ?_
  refine CW.region ?_
  refine RL.y rfl (y_asg rfl) ?_
  refine RL.nil ?_
  refine Fin.next ?_
  refine CW.seq ?_
  refine CW.seq ?_
  refine CW.region ?_
  refine RL.y rfl (y_mov (by conv => lhs; whnf)) ?_
  refine RL.y rfl (y_len sT33 hv.1 hv.2.1 rfl) ?_
  refine RL.y rfl (y_mov rfl) ?_
  refine RL.nil ?_
  refine Fin.next ?_
  refine CW.block ?_
  refine CW.loop (fun m E w' => ∃ k : Nat, m = rs.length - k ∧ k ≤ rs.length ∧ agrees E [(0, c), (9, v), (2, .int .i64 d), (10, .int .i64 rs.length), (11, .int .i64 (k : Int))] ∧ (∀ r ∈ rs.take k, d ≤ (dif r xs : Nat)) ∧ Ext w w') _ ⟨0, rfl, Nat.zero_le _, ⟨rfl, rfl, rfl, rfl, rfl, trivial⟩, by simp, Ext.refl w⟩ ?_
  · rintro m E w2 ⟨k, rfl, hkk, hagk, hall, hE2⟩
    refine CW.re _ hagk rfl ?_
    clear hagk
    refine CW.seq ?_
    refine CW.region ?_
    refine RL.y rfl (y_lt rfl rfl) ?_
    refine RL.nil ?_
    refine Fin.next ?_
    refine CW.seq ?_
    refine CW.cond rfl rfl (fun hck => ?_) (fun hck => ?_)
    · with_reducible first | (replace hck := deNF hck) | (replace hck := of_decide_eq_true hck) | (replace hck := of_decide_eq_false hck) | (replace hck := deNT hck) | (replace hck := deNN hck) | (replace hck := bnT hck) | (replace hck := bnF hck) | skip
      have hltk : k < rs.length := by omega
      refine CW.skip ?_
      refine Fin.next ?_
      refine CW.seq ?_
      refine CW.block ?_
      refine CW.seq ?_
      refine CW.region ?_
      refine RL.y rfl (y_ixa sT33 (eqw (hv.1.ext hE2)) (k := k) (hv.lt hltk) rfl rfl) ?_
      refine RL.y rfl (y_load sc25 (eqw (hv.1.ext hE2)) (hv.at hltk) rfl) ?_
      have hlk := hl _ (List.getElem_mem hltk)
      refine RL.y rfl (y_asg (by conv => lhs; whnf)) ?_
      refine RL.nil ?_
      refine Fin.next ?_
      refine CW.seq ?_
      refine CW.region ?_
      refine RL.y rfl (y_mov (by conv => lhs; whnf)) ?_
      refine RL.y rfl (y_mov (by conv => lhs; whnf)) ?_
      refine RL.call rfl (differenceOf_any (hc.ext hE2) ((hv.row hltk).ext hE2) hlk.symm) ?_
      rintro r w3 ⟨rfl, hE3⟩
      rw [dif_comm hlk.symm]
      refine RL.y rfl (y_mov (v := .int _ _) rfl) ?_
      refine RL.y rfl (y_lt rfl rfl) ?_
      refine RL.nil ?_
      refine Fin.next ?_
      refine CW.cond rfl rfl (fun hc2 => ?_) (fun hc2 => ?_)
      · with_reducible first | (replace hc2 := deNF hc2) | (replace hc2 := of_decide_eq_true hc2) | (replace hc2 := of_decide_eq_false hc2) | (replace hc2 := deNT hc2) | (replace hc2 := deNN hc2) | (replace hc2 := bnT hc2) | (replace hc2 := bnF hc2) | skip
        refine CW.seq ?_
        refine CW.region ?_
        refine RL.y rfl (y_asg rfl) ?_
        refine RL.nil ?_
        refine Fin.next ?_
        refine CW.ret ?_
        refine Fin.blockRet ?_
        refine Fin.thenRet ?_
        refine Fin.thenRet ?_
        refine Fin.blockRet ?_
        refine Fin.thenRet ?_
        refine Fin.ret1 rfl (by conv => lhs; whnf) ?_
        exact ⟨_, rfl, bF (fun h => by have := h _ (List.getElem_mem hltk); omega), hE2.trans hE3⟩
      · with_reducible first | (replace hc2 := deNF hc2) | (replace hc2 := of_decide_eq_true hc2) | (replace hc2 := of_decide_eq_false hc2) | (replace hc2 := deNT hc2) | (replace hc2 := deNN hc2) | (replace hc2 := bnT hc2) | (replace hc2 := bnF hc2) | skip
        refine CW.skip ?_
        refine Fin.blockNormal ?_
        refine Fin.next ?_
        refine CW.region ?_
        refine RL.y rfl (y_add rfl rfl (IntWalk.i64_in _ (by omega))) ?_
        refine RL.y rfl (y_mov (v := .int _ _) rfl) ?_
        refine RL.nil ?_
        refine Fin.le ?_
        exact ⟨rs.length - (k + 1), by omega, k + 1, rfl, hltk, ⟨rfl, rfl, rfl, rfl, rfl, trivial⟩, all_snoc hltk hall (by omega), hE2.trans hE3⟩
    · with_reducible first | (replace hck := deNF hck) | (replace hck := of_decide_eq_true hck) | (replace hck := of_decide_eq_false hck) | (replace hck := deNT hck) | (replace hck := deNN hck) | (replace hck := bnT hck) | (replace hck := bnF hck) | skip
      obtain rfl : rs.length = k := by omega
      refine CW.exit ?_
      refine Fin.thenExit ?_
      refine Fin.thenExit ?_
      refine Fin.blockHit ?_
      refine Fin.next ?_
      refine CW.seq ?_
      refine CW.region ?_
      refine RL.y rfl (y_asg rfl) ?_
      refine RL.nil ?_
      refine Fin.next ?_
      refine CW.ret ?_
      refine Fin.ret1 rfl (by conv => lhs; whnf) ?_
      exact ⟨_, rfl, bT (by unfold apart; simpa using hall), hE2⟩

theorem l07Families_any {w : World} {s v : Nat} {d : Int} (hs : sdsys (s : Int) (v : Int)) :
    Does Try.prog 57 #[.int .i64 (s : Int), .int .i64 (v : Int), .int .i64 d] w (fun v' w' => OwSS w' w.heap.size w'.heap.size v' (fams s v d) ∧ Ext w w') := by
  have hs1 := hs.1
  have hs2 := hs.2
  have hsm := pow_small hs
  have hpw := pw_nat v s
  have hfe := fams_eq s v d
  obtain ⟨N, hN⟩ : ∃ N, N = v ^ s := ⟨_, rfl⟩
  rw [← hN] at hsm hpw hfe
  refine enter Try.func57 rfl 31 Try.ntmps57 rfl (by kernel_rfl) ?_
  refine CW.seq ?_
  refine CW.region ?_
  refine RL.y rfl (y_asg rfl) ?_
  refine RL.nil ?_
  refine Fin.next ?_
  refine CW.seq ?_
  refine CW.region ?_
  refine RL.lit0 rfl sT33 (fun vo w1 ho1 hE1 hb1 => ?_)
  refine RL.y rfl (y_asg (by conv => lhs; whnf)) ?_
  refine RL.nil ?_
  refine Fin.next ?_
  refine CW.seq ?_
  refine CW.seq ?_
  refine CW.region ?_
  refine RL.y rfl (y_asg rfl) ?_
  refine RL.nil ?_
  refine Fin.next ?_
  refine CW.block ?_
  refine CW.loop (fun m E w' => ∃ (n : Nat) (vo : Value) (cs : List Value) (U : Nat), m = N - n ∧ n ≤ N ∧ agrees E [(0, .int .i64 (s : Int)), (1, .int .i64 (v : Int)), (2, .int .i64 d), (7, vo), (8, .int .i64 (n : Int))] ∧ OwC ints 2 25 w' w.heap.size U vo cs (famTo s v d n) ∧ Ext w w') _ (⟨0, vo, [], _, rfl, Nat.zero_le _, ⟨rfl, rfl, rfl, rfl, rfl, trivial⟩, OwC.nil ho1, hE1⟩) ?_
  · rintro m E w2 ⟨n, vo, cs, U, rfl, hn, hag, ho2, hE2⟩
    refine CW.re _ hag rfl ?_
    have hfl := famTo_le s v d n
    have hcl := ho2.2.1
    refine CW.seq ?_
    refine CW.seq ?_
    refine CW.region ?_
    refine RL.y rfl (y_mov (v := .int _ _) rfl) ?_
    refine RL.y rfl (y_mov (v := .int _ _) rfl) ?_
    refine RL.y rfl (y_mov (v := .int _ _) rfl) ?_
    refine RL.call rfl (l07Power_any hs2.1 hs2.2 (by omega)) ?_
    rintro r w3 ⟨rfl, rfl⟩
    rw [hpw]
    refine RL.y rfl (y_lt rfl rfl) ?_
    refine RL.nil ?_
    refine Fin.next ?_
    refine CW.cond rfl rfl (fun hc => ?_) (fun hc => ?_)
    · with_reducible first | (replace hc := deNF hc) | (replace hc := of_decide_eq_true hc) | (replace hc := of_decide_eq_false hc) | (replace hc := deNT hc) | (replace hc := deNN hc) | (replace hc := bnT hc) | (replace hc := bnF hc) | skip
      have hlt : n < N := by omega
      refine CW.skip ?_
      refine Fin.next ?_
      refine CW.seq ?_
      refine CW.block ?_
      refine CW.seq ?_
      refine CW.region ?_
      refine RL.y rfl (y_mov (v := .int _ _) rfl) ?_
      refine RL.y rfl (y_mov (v := .int _ _) rfl) ?_
      refine RL.y rfl (y_mov (v := .int _ _) rfl) ?_
      refine RL.call rfl (l07At_any hs (by omega)) ?_
      rintro c w3 ⟨ho3, hE3, hb3⟩
      have ho2' := ho2.ext hE3
      have hE23 := hE2.trans hE3
      refine RL.y rfl (y_asg (by conv => lhs; whnf)) ?_
      refine RL.nil ?_
      refine Fin.next ?_
      refine CW.seq ?_
      refine CW.region ?_
      refine RL.y rfl (y_mov (by conv => lhs; whnf)) ?_
      refine RL.y rfl (y_mov (by conv => lhs; whnf)) ?_
      refine RL.y rfl (y_mov (v := .int _ _) rfl) ?_
      refine RL.call rfl (l07Apart_any ⟨_, ho2'.rdc⟩ ho3.sv (fun r hr => by rw [famTo_len hr, dig_len])) ?_
      rintro r w4 ⟨rfl, hE4⟩
      have hU := ho2.1.2.1
      have hE24 := hE23.trans hE4
      refine RL.nil ?_
      refine Fin.next ?_
      refine CW.cond rfl rfl (fun hc2 => ?_) (fun hc2 => ?_)
      · with_reducible first | (replace hc2 := deNF hc2) | (replace hc2 := of_decide_eq_true hc2) | (replace hc2 := of_decide_eq_false hc2) | (replace hc2 := deNT hc2) | (replace hc2 := deNN hc2) | (replace hc2 := bnT hc2) | (replace hc2 := bnF hc2) | skip
        refine CW.region ?_
        refine RL.y rfl (y_mov (by conv => lhs; whnf)) ?_
        refine RL.y rfl (y_mov (by conv => lhs; whnf)) ?_
        refine RL.app1 rfl rfl sT33 (by omega) (ho2'.ext hE4).1.ov (by omega) hE24.size rfl (slice_one ho3.sv) (fun _ => rfl) (fun u v5 w5 ho5 hg5 hn5 => ?_)
        have hp := (ho2'.ext hE4).push ((ho3.ext hE4).mono hE2.size) (fun b hb => by rw [hb3] at hb; simp only [Option.some.injEq] at hb; omega) ho5 hg5 hn5
        rw [← famTo_yes hc2] at hp
        refine RL.y rfl (y_asg (by conv => lhs; whnf)) ?_
        refine RL.nil ?_
        refine Fin.blockNormal ?_
        refine Fin.next ?_
        refine CW.region ?_
        refine RL.y rfl (y_mov (v := .int _ _) rfl) ?_
        refine RL.y rfl (y_add rfl rfl (IntWalk.i64_in _ (by omega))) ?_
        refine RL.y rfl (y_asg (v := .int _ _) rfl) ?_
        refine RL.nil ?_
        refine Fin.le ?_
        exact ⟨N - (n + 1), by omega, n + 1, v5, _, _, rfl, hlt, ⟨rfl, rfl, rfl, rfl, rfl, trivial⟩, hp, hE24.grown hg5 (fun b hb => ((ho2'.ext hE4).1.lt b hb).1)⟩
      · with_reducible first | (replace hc2 := deNF hc2) | (replace hc2 := of_decide_eq_true hc2) | (replace hc2 := of_decide_eq_false hc2) | (replace hc2 := deNT hc2) | (replace hc2 := deNN hc2) | (replace hc2 := bnT hc2) | (replace hc2 := bnF hc2) | skip
        refine CW.skip ?_
        refine Fin.blockNormal ?_
        refine Fin.next ?_
        refine CW.region ?_
        refine RL.y rfl (y_mov (v := .int _ _) rfl) ?_
        refine RL.y rfl (y_add rfl rfl (IntWalk.i64_in _ (by omega))) ?_
        refine RL.y rfl (y_asg (v := .int _ _) rfl) ?_
        refine RL.nil ?_
        refine Fin.le ?_
        exact ⟨N - (n + 1), by omega, n + 1, vo, cs, U, rfl, hlt, ⟨rfl, rfl, rfl, rfl, rfl, trivial⟩, by rw [famTo_no hc2]; exact ho2'.ext hE4, hE24⟩
    · with_reducible first | (replace hc := deNF hc) | (replace hc := of_decide_eq_true hc) | (replace hc := of_decide_eq_false hc) | (replace hc := deNT hc) | (replace hc := deNN hc) | (replace hc := bnT hc) | (replace hc := bnF hc) | skip
      obtain rfl : n = N := by omega
      rw [← hfe] at ho2
      refine CW.exit ?_
      refine Fin.thenExit ?_
      refine Fin.thenExit ?_
      refine Fin.blockHit ?_
      refine Fin.next ?_
      refine CW.seq ?_
      refine CW.region ?_
      refine RL.y rfl (y_mov (by conv => lhs; whnf)) ?_
      refine RL.y rfl (y_asg (by conv => lhs; whnf)) ?_
      refine RL.nil ?_
      refine Fin.next ?_
      refine CW.ret ?_
      refine Fin.ret1 rfl (by conv => lhs; whnf) ?_
      exact ⟨_, rfl, OwN.wide ⟨cs, ho2⟩ (Nat.le_refl _) ho2.1.2.1 (Nat.le_refl _), hE2⟩

theorem familiesOf_any {w : World} {s v : Nat} {d most : Int} (hs : sdsys (s : Int) (v : Int)) (hm : 0 ≤ most) :
    Does Try.prog 58 #[.int .i64 (s : Int), .int .i64 (v : Int), .int .i64 d, .int .i64 most] w (fun v' w' => OwSS w' w.heap.size w'.heap.size v' ((fams s v d).take most.toNat) ∧ Ext w w') := by
  have hs1 := hs.1
  have hs2 := hs.2
  have hsm := pow_small hs
  have hpw := pw_nat v s
  have hfe := fams_eq s v d
  obtain ⟨N, hN⟩ : ∃ N, N = v ^ s := ⟨_, rfl⟩
  rw [← hN] at hsm hpw hfe
  refine enter Try.func58 rfl 55 Try.ntmps58 rfl (by kernel_rfl) ?_
  refine CW.seq ?_
  refine CW.region ?_
  refine RL.y rfl (y_asg rfl) ?_
  refine RL.nil ?_
  refine Fin.next ?_
  refine CW.seq ?_
  refine CW.region ?_
  refine RL.lit0 rfl sT33 (fun vo w1 ho1 hE1 hb1 => ?_)
  refine RL.y rfl (y_asg (by conv => lhs; whnf)) ?_
  refine RL.nil ?_
  refine Fin.next ?_
  refine CW.seq ?_
  refine CW.seq ?_
  refine CW.region ?_
  refine RL.y rfl (y_mov (v := .int _ _) rfl) ?_
  refine RL.y rfl (y_mov (v := .int _ _) rfl) ?_
  refine RL.call rfl (powerOf_any hs2.1 hs2.2 (by omega)) ?_
  rintro r w3 ⟨rfl, rfl⟩
  rw [hpw]
  refine RL.y rfl (y_mov rfl) ?_
  refine RL.nil ?_
  refine Fin.next ?_
  refine CW.block ?_
  refine CW.loop (fun m E w' => ∃ (n : Nat) (vo : Value) (cs : List Value) (U : Nat), m = N - n ∧ n ≤ N ∧ agrees E [(0, .int .i64 (s : Int)), (1, .int .i64 (v : Int)), (2, .int .i64 d), (3, .int .i64 most), (9, vo), (16, .int .i64 (N : Int)), (17, .int .i64 (n : Int))] ∧ OwC ints 2 25 w' w.heap.size U vo cs (famTo s v d n) ∧ ((famTo s v d n).length : Int) ≤ most ∧ Ext w w') _ (⟨0, vo, [], _, rfl, Nat.zero_le _, ⟨rfl, rfl, rfl, rfl, rfl, rfl, rfl, trivial⟩, OwC.nil ho1, hm, hE1⟩) ?_
  · rintro m E w2 ⟨n, vo, cs, U, rfl, hn, hag, ho2, hmo, hE2⟩
    refine CW.re _ hag rfl ?_
    have hfl := famTo_le s v d n
    have hcl := ho2.2.1
    have hpre : n ≤ N → famTo s v d n = (fams s v d).take (famTo s v d n).length := fun h => by have := famTo_pre s v d n (N - n); rw [show n + (N - n) = N from by omega, ← hfe] at this; exact this
    refine CW.seq ?_
    refine CW.region ?_
    refine RL.y rfl (y_lt rfl rfl) ?_
    refine RL.nil ?_
    refine Fin.next ?_
    refine CW.seq ?_
    refine CW.cond rfl rfl (fun hc => ?_) (fun hc => ?_)
    · with_reducible first | (replace hc := deNF hc) | (replace hc := of_decide_eq_true hc) | (replace hc := of_decide_eq_false hc) | (replace hc := deNT hc) | (replace hc := deNN hc) | (replace hc := bnT hc) | (replace hc := bnF hc) | skip
      have hlt : n < N := by omega
      refine CW.skip ?_
      refine Fin.next ?_
      refine CW.seq ?_
      refine CW.block ?_
      refine CW.seq ?_
      refine CW.region ?_
      refine RL.y rfl (y_mov (v := .int _ _) rfl) ?_
      refine RL.y rfl (y_asg (v := .int _ _) rfl) ?_
      refine RL.nil ?_
      refine Fin.next ?_
      refine CW.seq ?_
      refine CW.region ?_
      refine RL.y rfl (y_mov (v := .int _ _) rfl) ?_
      refine RL.make rfl sT25 (m := s) (by omega) (by omega) rfl (fun c w3 ho3 hE3 hb3 => ?_)
      have ho2' := ho2.ext hE3
      refine RL.y rfl (y_asg (by conv => lhs; whnf)) ?_
      refine RL.nil ?_
      refine Fin.next ?_
      refine CW.seq ?_
      refine CW.seq ?_
      refine CW.region ?_
      refine RL.y rfl (y_mov (v := .int _ _) rfl) ?_
      refine RL.y rfl (y_sub rfl rfl (IntWalk.i64_in _ (by omega))) ?_
      refine RL.y rfl (y_asg (v := .int _ _) rfl) ?_
      refine RL.nil ?_
      refine Fin.next ?_
      refine CW.block ?_
      refine CW.loop (fun m E w' => ∃ k : Nat, m = s - k ∧ k ≤ s ∧ agrees E [(0, .int .i64 (s : Int)), (1, .int .i64 (v : Int)), (2, .int .i64 d), (3, .int .i64 most), (9, vo), (16, .int .i64 (N : Int)), (17, .int .i64 (n : Int)), (11, c), (12, .int .i64 (((s - k : Nat) : Int) - 1)), (10, .int .i64 (quoN v n k : Nat))] ∧ OV w' w2.heap.size 2 c (ints (List.replicate (s - k) 0 ++ sufD v n k)) ∧ Ext w2 w') _ ⟨0, rfl, Nat.zero_le _, ⟨rfl, rfl, rfl, rfl, rfl, rfl, rfl, rfl, rfl, rfl, trivial⟩, by simpa [sufD, ints] using ho3, hE3⟩ ?_
      · rintro m E w4 ⟨k, rfl, hkk, hagk, ho4, hE4⟩
        refine CW.re _ hagk rfl ?_
        clear hagk
        refine CW.seq ?_
        refine CW.seq ?_
        refine CW.region ?_
        refine RL.y rfl (y_mov (v := .int _ _) rfl) ?_
        refine RL.y rfl (y_ge rfl rfl) ?_
        refine RL.nil ?_
        refine Fin.next ?_
        refine CW.cond rfl rfl (fun hck => ?_) (fun hck => ?_)
        · with_reducible first | (replace hck := deNF hck) | (replace hck := of_decide_eq_true hck) | (replace hck := of_decide_eq_false hck) | (replace hck := deNT hck) | (replace hck := deNN hck) | (replace hck := bnT hck) | (replace hck := bnF hck) | skip
          have hltk : k < s := by omega
          have hq := quoN_le (v := v) (n := n) (by omega) k
          have hq2 : quoN v n (k + 1) = quoN v n k / v := rfl
          have hql := quoN_le (v := v) (n := n) (by omega) (k + 1)
          rw [show ((s - k : Nat) : Int) - 1 = ((s - (k + 1) : Nat) : Int) from by omega]
          refine CW.skip ?_
          refine Fin.next ?_
          refine CW.seq ?_
          refine CW.block ?_
          refine CW.seq ?_
          refine CW.region ?_
          refine RL.y rfl (y_mov (by conv => lhs; whnf)) ?_
          refine RL.y rfl (y_mov (v := .int _ _) rfl) ?_
          refine RL.y rfl (y_mov (v := .int _ _) rfl) ?_
          refine RL.y rfl (y_mov (v := .int _ _) rfl) ?_
          refine RL.y rfl (y_rem rfl rfl (by omega) (Int.ofNat_tmod _ _).symm) ?_
          refine RL.y rfl (y_ixa sT25 (eqw (ho4.sv)) (k := s - (k + 1)) (by simp [ints, sufD_len]; omega) rfl rfl) ?_
          refine RL.store sT25 ho4 (k := s - (k + 1)) (x := .int .i64 ((quoN v n k % v : Nat) : Int)) (by simp [ints, sufD_len]; omega) rfl rfl rfl (fun w5 ho5 hg5 => ?_)
          rw [ints_set, dig_step hltk] at ho5
          refine RL.nil ?_
          refine Fin.next ?_
          refine CW.region ?_
          refine RL.y rfl (y_mov (v := .int _ _) rfl) ?_
          refine RL.y rfl (y_mov (v := .int _ _) rfl) ?_
          refine RL.y rfl (y_quo rfl rfl (by omega) (show IntKind.i64.wrap (((quoN v n k : Nat) : Int).tdiv (v : Int)) = ((quoN v n (k + 1) : Nat) : Int) by rw [← Int.ofNat_tdiv, ← hq2]; exact IntWalk.i64_in _ (by omega))) ?_
          refine RL.y rfl (y_asg (v := .int _ _) rfl) ?_
          refine RL.nil ?_
          refine Fin.blockNormal ?_
          refine Fin.next ?_
          refine CW.region ?_
          refine RL.y rfl (y_mov (v := .int _ _) rfl) ?_
          refine RL.y rfl (y_sub rfl rfl (IntWalk.i64_in _ (by omega))) ?_
          refine RL.y rfl (y_asg (v := .int _ _) rfl) ?_
          refine RL.nil ?_
          refine Fin.le ?_
          exact ⟨s - (k + 1), by omega, k + 1, rfl, hltk, ⟨rfl, rfl, rfl, rfl, rfl, rfl, rfl, rfl, rfl, rfl, trivial⟩, ho5, hE4.grown hg5 (fun b hb => (ho4.lt b hb).1)⟩
        · with_reducible first | (replace hck := deNF hck) | (replace hck := of_decide_eq_true hck) | (replace hck := of_decide_eq_false hck) | (replace hck := deNT hck) | (replace hck := deNN hck) | (replace hck := bnT hck) | (replace hck := bnF hck) | skip
          obtain rfl : s = k := by omega
          rw [Nat.sub_self, List.replicate_zero, List.nil_append] at ho4
          replace ho4 : OV w4 w2.heap.size 2 c (ints (dig s v n)) := ho4
          have ho2'' := ho2.ext hE4
          have hE24 := hE2.trans hE4
          have hU := ho2.1.2.1
          refine CW.exit ?_
          refine Fin.thenExit ?_
          refine Fin.thenExit ?_
          refine Fin.blockHit ?_
          refine Fin.next ?_
          refine CW.seq ?_
          refine CW.seq ?_
          refine CW.region ?_
          refine RL.y rfl (y_mov (by conv => lhs; whnf)) ?_
          refine RL.y rfl (y_len sT33 ho2''.rdc.1 hcl rfl) ?_
          refine RL.y rfl (y_mov (v := .int _ _) rfl) ?_
          refine RL.y rfl (y_eq rfl rfl) ?_
          refine RL.nil ?_
          refine Fin.next ?_
          refine CW.cond rfl rfl (fun hc3 => ?_) (fun hc3 => ?_)
          · with_reducible first | (replace hc3 := deNF hc3) | (replace hc3 := of_decide_eq_true hc3) | (replace hc3 := of_decide_eq_false hc3) | (replace hc3 := deNT hc3) | (replace hc3 := deNN hc3) | (replace hc3 := bnT hc3) | (replace hc3 := bnF hc3) | skip
            refine CW.exit ?_
            refine Fin.thenExit ?_
            refine Fin.blockMiss rfl ?_
            refine Fin.thenExit ?_
            refine Fin.thenExit ?_
            refine Fin.blockHit ?_
            refine Fin.next ?_
            refine CW.seq ?_
            refine CW.region ?_
            refine RL.y rfl (y_mov (by conv => lhs; whnf)) ?_
            refine RL.y rfl (y_asg (by conv => lhs; whnf)) ?_
            refine RL.nil ?_
            refine Fin.next ?_
            refine CW.ret ?_
            refine Fin.ret1 rfl (by conv => lhs; whnf) ?_
            exact ⟨_, rfl, by rw [← hc3, Int.toNat_natCast, ← hpre hn]; exact OwN.wide ⟨cs, ho2''⟩ (Nat.le_refl _) ho2''.1.2.1 (Nat.le_refl _), hE24⟩
          · with_reducible first | (replace hc3 := deNF hc3) | (replace hc3 := of_decide_eq_true hc3) | (replace hc3 := of_decide_eq_false hc3) | (replace hc3 := deNT hc3) | (replace hc3 := deNN hc3) | (replace hc3 := bnT hc3) | (replace hc3 := bnF hc3) | skip
            refine CW.skip ?_
            refine Fin.next ?_
            refine CW.seq ?_
            refine CW.region ?_
            refine RL.y rfl (y_mov (v := .int _ _) rfl) ?_
            refine RL.y rfl (y_eq rfl rfl) ?_
            refine RL.y rfl (y_mov (v := .bool _) rfl) ?_
            refine RL.split (t := 43) rfl rfl (fun hd1 => ?_) (fun hd1 => ?_)
            · with_reducible first | (replace hd1 := deNF hd1) | (replace hd1 := of_decide_eq_true hd1) | (replace hd1 := of_decide_eq_false hd1) | (replace hd1 := deNT hd1) | (replace hd1 := deNN hd1) | (replace hd1 := bnT hd1) | (replace hd1 := bnF hd1) | skip
              subst hd1
              have hap := apart_one (s := s) (v := v) (n := n) (by omega) (by omega)
              refine RL.pass (t := 43) rfl rfl rfl rfl ?_
              refine RL.pass (t := 43) rfl rfl rfl rfl ?_
              refine RL.pass (t := 43) rfl rfl rfl rfl ?_
              refine RL.pass (t := 43) rfl rfl rfl rfl ?_
              refine RL.y rfl (y_pickT (v := .bool _) rfl rfl) ?_
              refine RL.nil ?_
              refine Fin.next ?_
              refine CW.condT rfl rfl ?_
              refine CW.region ?_
              refine RL.y rfl (y_mov (by conv => lhs; whnf)) ?_
              refine RL.y rfl (y_mov (by conv => lhs; whnf)) ?_
              refine RL.app1 rfl rfl sT33 (by omega) ho2''.1.ov (by omega) hE24.size rfl (slice_one ho4.sv) (fun _ => rfl) (fun u v5 w5 ho5 hg5 hn5 => ?_)
              have hp := ho2''.push (ho4.mono hE2.size) (fun b hb => by rw [hb3] at hb; simp only [Option.some.injEq] at hb; omega) ho5 hg5 hn5
              rw [← famTo_yes hap] at hp
              refine RL.y rfl (y_asg (by conv => lhs; whnf)) ?_
              refine RL.nil ?_
              refine Fin.blockNormal ?_
              refine Fin.next ?_
              refine CW.region ?_
              refine RL.y rfl (y_add rfl rfl (IntWalk.i64_in _ (by omega))) ?_
              refine RL.y rfl (y_mov (v := .int _ _) rfl) ?_
              refine RL.nil ?_
              refine Fin.le ?_
              exact ⟨N - (n + 1), by omega, n + 1, v5, _, _, rfl, hlt, ⟨rfl, rfl, rfl, rfl, rfl, rfl, rfl, trivial⟩, hp, by rw [famTo_yes hap]; simp; omega, hE24.grown hg5 (fun b hb => (ho2''.1.lt b hb).1)⟩
            · with_reducible first | (replace hd1 := deNF hd1) | (replace hd1 := of_decide_eq_true hd1) | (replace hd1 := of_decide_eq_false hd1) | (replace hd1 := deNT hd1) | (replace hd1 := deNN hd1) | (replace hd1 := bnT hd1) | (replace hd1 := bnF hd1) | skip
              refine RL.take (t := 43) rfl rfl rfl ?_
              refine RL.y rfl (y_mov (by conv => lhs; whnf)) ?_
              refine RL.take (t := 43) rfl rfl rfl ?_
              refine RL.y rfl (y_mov (by conv => lhs; whnf)) ?_
              refine RL.take (t := 43) rfl rfl rfl ?_
              refine RL.y rfl (y_mov (v := .int _ _) rfl) ?_
              refine RL.take (t := 43) rfl rfl rfl ?_
              refine RL.call rfl (isFar_any ⟨_, ho2''.rdc⟩ ho4.sv (fun r hr => by rw [famTo_len hr]; exact (dig_len _ _ _).symm)) ?_
              rintro r w6 ⟨rfl, hE6⟩
              refine RL.y rfl (y_pickF (v := .bool _) rfl rfl) ?_
              refine RL.nil ?_
              refine Fin.next ?_
              refine CW.cond rfl rfl (fun hap => ?_) (fun hap => ?_)
              · with_reducible first | (replace hap := deNF hap) | (replace hap := of_decide_eq_true hap) | (replace hap := of_decide_eq_false hap) | (replace hap := deNT hap) | (replace hap := deNN hap) | (replace hap := bnT hap) | (replace hap := bnF hap) | skip
                refine CW.region ?_
                refine RL.y rfl (y_mov (by conv => lhs; whnf)) ?_
                refine RL.y rfl (y_mov (by conv => lhs; whnf)) ?_
                refine RL.app1 rfl rfl sT33 (by omega) (ho2''.ext hE6).1.ov (by omega) (hE24.trans hE6).size rfl (slice_one ho4.sv) (fun _ => rfl) (fun u v5 w5 ho5 hg5 hn5 => ?_)
                have hp := (ho2''.ext hE6).push ((ho4.ext hE6).mono hE2.size) (fun b hb => by rw [hb3] at hb; simp only [Option.some.injEq] at hb; omega) ho5 hg5 hn5
                rw [← famTo_yes hap] at hp
                refine RL.y rfl (y_asg (by conv => lhs; whnf)) ?_
                refine RL.nil ?_
                refine Fin.blockNormal ?_
                refine Fin.next ?_
                refine CW.region ?_
                refine RL.y rfl (y_add rfl rfl (IntWalk.i64_in _ (by omega))) ?_
                refine RL.y rfl (y_mov (v := .int _ _) rfl) ?_
                refine RL.nil ?_
                refine Fin.le ?_
                exact ⟨N - (n + 1), by omega, n + 1, v5, _, _, rfl, hlt, ⟨rfl, rfl, rfl, rfl, rfl, rfl, rfl, trivial⟩, hp, by rw [famTo_yes hap]; simp; omega, (hE24.trans hE6).grown hg5 (fun b hb => ((ho2''.ext hE6).1.lt b hb).1)⟩
              · with_reducible first | (replace hap := deNF hap) | (replace hap := of_decide_eq_true hap) | (replace hap := of_decide_eq_false hap) | (replace hap := deNT hap) | (replace hap := deNN hap) | (replace hap := bnT hap) | (replace hap := bnF hap) | skip
                refine CW.skip ?_
                refine Fin.blockNormal ?_
                refine Fin.next ?_
                refine CW.region ?_
                refine RL.y rfl (y_add rfl rfl (IntWalk.i64_in _ (by omega))) ?_
                refine RL.y rfl (y_mov (v := .int _ _) rfl) ?_
                refine RL.nil ?_
                refine Fin.le ?_
                exact ⟨N - (n + 1), by omega, n + 1, vo, cs, U, rfl, hlt, ⟨rfl, rfl, rfl, rfl, rfl, rfl, rfl, trivial⟩, by rw [famTo_no hap]; exact ho2''.ext hE6, by rw [famTo_no hap]; exact hmo, hE24.trans hE6⟩
    · with_reducible first | (replace hc := deNF hc) | (replace hc := of_decide_eq_true hc) | (replace hc := of_decide_eq_false hc) | (replace hc := deNT hc) | (replace hc := deNN hc) | (replace hc := bnT hc) | (replace hc := bnF hc) | skip
      obtain rfl : n = N := by omega
      rw [← hfe] at ho2 hmo
      refine CW.exit ?_
      refine Fin.thenExit ?_
      refine Fin.thenExit ?_
      refine Fin.blockHit ?_
      refine Fin.next ?_
      refine CW.seq ?_
      refine CW.region ?_
      refine RL.y rfl (y_mov (by conv => lhs; whnf)) ?_
      refine RL.y rfl (y_asg (by conv => lhs; whnf)) ?_
      refine RL.nil ?_
      refine Fin.next ?_
      refine CW.ret ?_
      refine Fin.ret1 rfl (by conv => lhs; whnf) ?_
      exact ⟨_, rfl, by rw [List.take_of_length_le (by omega)]; exact OwN.wide ⟨cs, ho2⟩ (Nat.le_refl _) ho2.1.2.1 (Nat.le_refl _), hE2⟩
end Go.Proofs.Ytfpignajpihgnaa
