/-
  Counting keys: the recursive visit.
-/
import Derived.Test.YtaepdknmagaokaaFEach0
import Derived.Test.YtaepdknmagaokaaWea2
import Derived.Test.YtaepdknmagaokaaTape
import Derived.Test.YtaepdknmagaokaaPart
namespace Go.Proofs.Ytaepdknmagaokaa
open B Go.RowKit

theorem OV.modx {w w' : World} {B b e : Nat} {v : Value} {vs : List Value} (h : OV w B e v vs) (hm : Mod b (b + 1) w w') (hn : ∀ x, v.ownBlock = some x → x ≠ b) : OV w' B e v vs := by
  rcases h with ⟨h1, h2⟩
  refine ⟨h1, ?_⟩
  rcases h2 with h2 | ⟨g, cap, cur, rfl, hb, hg, r⟩
  · exact .inl h2
  · have hne : g ≠ b := hn g rfl
    have hlt : g < w.heap.size := (Array.getElem?_eq_some_iff.1 hg).1
    exact .inr ⟨g, cap, cur, rfl, hb, (hm.block g hlt (by omega)).trans hg, r⟩
/-- What the visit finds and leaves: the key variable, the maker, the visit, the allowed cuts, itself, the count. -/
def EK (q : Mk) (fv fa fs : Value) (w0 w : World) (B kb mb vb ab sb cb : Nat) (ks : List Int) (c : Int) : Prop :=
  ∃ vk, VR w kb [vk] ∧ OV w B 2 vk (ints ks) ∧ (∀ x, vk.ownBlock = some x → x ≠ kb ∧ x ≠ mb ∧ x ≠ vb ∧ x ≠ ab ∧ x ≠ sb ∧ x ≠ cb) ∧
    VR w mb [.int .i64 q.ch, .int .i64 q.dp, .int .i64 q.st, .int .i64 q.sm, .int .i64 q.le] ∧ VR w vb [fv] ∧ VR w ab [fa] ∧ VR w sb [fs] ∧ VR w cb [.int .i64 c] ∧ Ext w0 w
/-- The variables differ, and what is written is new. -/
structure Dis (w0 : World) (B kb mb vb ab sb cb : Nat) : Prop where
  k : kb ≠ mb ∧ kb ≠ vb ∧ kb ≠ ab ∧ kb ≠ sb ∧ kb ≠ cb
  c : cb ≠ mb ∧ cb ≠ vb ∧ cb ≠ ab ∧ cb ≠ sb
  n : w0.heap.size = B ∧ w0.heap.size ≤ kb ∧ w0.heap.size ≤ cb

theorem countKeys1_any {w : World} {v : Value} {cb : Nat} {c : Int} (hV : VR w cb [.int .i64 c]) (hc : 0 ≤ c ∧ c ≤ 1000000000) :
    Does Try.prog 94 #[v, .pointer (some ⟨cb, 0, none⟩)] w (fun r w' => r = .bool true ∧ VR w' cb [.int .i64 (c + 1)] ∧ Mod cb (cb + 1) w w') := by
  refine enter Try.func94 rfl 6 Try.ntmps94 rfl (by kernel_rfl) ?_
  refine CW.seq ?_
  refine CW.region ?_
  refine RL.y rfl (y_asg rfl) ?_
  refine RL.nil ?_
  refine Fin.next ?_
  refine CW.seq ?_
  refine CW.region ?_
  refine RL.y rfl (y_loadv sc2 (eqw (hV)) rfl rfl) ?_
  refine RL.y rfl (y_add rfl rfl (IntWalk.i64_in _ (by omega))) ?_
  refine RL.storev so2 (hV) (by simp) rfl rfl (rfl) (fun w1 hV1 hg1 => ?_)
  refine RL.nil ?_
  refine Fin.next ?_
  refine CW.seq ?_
  refine CW.region ?_
  refine RL.y rfl (y_asg rfl) ?_
  refine RL.nil ?_
  refine Fin.next ?_
  refine CW.ret ?_
  refine Fin.ret1 rfl (by conv => lhs; whnf) ?_
  exact ⟨_, rfl, rfl, hV1, grown_mod hg1 (fun k hk => by simp only [Option.some.injEq] at hk; omega)⟩

abbrev cntF (cb : Nat) : Value := .func (.func 94) #[] [.pointer (some ⟨cb, 0, none⟩)].toArray

theorem eachKey1_base {w w0 : World} {q : Mk} {B kb mb vb fb ab sb cb : Nat} {fa fs : Value} {ks : List Int} {c : Int} (hm : mkOk q) (hd : Dis w0 B kb mb vb ab sb cb) (hl : (ks.length : Int) = q.ch) (hc : 0 ≤ c ∧ c ≤ 1000000) (hK : EK q (cntF cb) fa fs w0 w B kb mb vb ab sb cb ks c) :
    Does Try.prog 113 #[.bool false, .pointer (some ⟨kb, 0, none⟩), .pointer (some ⟨mb, 0, none⟩), .pointer (some ⟨vb, 0, none⟩), .pointer (some ⟨fb, 0, none⟩), .pointer (some ⟨ab, 0, none⟩), .pointer (some ⟨sb, 0, none⟩)] w (fun r w' => r = .bool true ∧ EK q (cntF cb) fa fs w0 w' B kb mb vb ab sb cb ks (c + (if q.le ≤ (kn ks ks.length : Int) then 1 else 0))) := by
  obtain ⟨vk, hk, ho, hnb, hmk, hvf, haf, hsf, hct, hE⟩ := id hK
  obtain ⟨⟨k1, k2, k3, k4, k5⟩, ⟨c1, c2, c3, c4⟩, n1, n2, n3⟩ := hd
  refine enter Try.func113 rfl 91 Try.ntmps113 rfl (by kernel_rfl) ?_
  refine CW.seq ?_
  refine CW.region ?_
  refine RL.y rfl (y_asg rfl) ?_
  refine RL.nil ?_
  refine Fin.next ?_
  refine CW.seq ?_
  refine CW.region ?_
  refine RL.y rfl (y_loadv sc29 (eqw (hk)) rfl rfl) ?_
  refine RL.y rfl (y_len sT29 ho.sv (ints_len _) rfl) ?_
  refine RL.y rfl (y_asg (v := .int _ _) rfl) ?_
  refine RL.nil ?_
  refine Fin.next ?_
  refine CW.seq ?_
  refine CW.seq ?_
  refine CW.region ?_
  refine RL.y rfl (y_mov (v := .int _ _) rfl) ?_
  refine RL.y rfl (y_fa fa25_0 rfl rfl) ?_
  refine RL.y rfl (y_loadv sc2 (eqw (hmk)) rfl rfl) ?_
  refine RL.y rfl (y_eq rfl rfl) ?_
  refine RL.nil ?_
  refine Fin.next ?_
  refine CW.condT rfl ((decide_eq_true hl)) ?_
  have hD : VR w.drew kb [vk] ∧ VR w.drew mb [.int .i64 q.ch, .int .i64 q.dp, .int .i64 q.st, .int .i64 q.sm, .int .i64 q.le] ∧ VR w.drew vb [cntF cb] := ⟨hk.ext (Ext.drew _), hmk.ext (Ext.drew _), hvf.ext (Ext.drew _)⟩
  have hEd : Ext w w.drew := Ext.drew _
  refine CW.seq ?_
  refine CW.tape (fun w' => VR w' kb [vk] ∧ VR w' mb [.int .i64 q.ch, .int .i64 q.dp, .int .i64 q.st, .int .i64 q.sm, .int .i64 q.le] ∧ VR w' vb [cntF cb]) [10, 9, 8, 5, 1, 0] mixed (by kernel_rfl) (by kernel_rfl) (hD) ?_
  refine TL.yc rfl rfl (y_loadv sc29 (eqw (hD.1)) rfl rfl) ?_
  refine TL.op rfl (fun hC => ?_)
  refine RL.call rfl (different_any (ho.ext hEd).sv) ?_
  rintro r w2 ⟨rfl, rfl⟩
  refine RL.nil ?_
  refine Fin.tl (hD) ?_
  refine TL.y rfl rfl (y_fa fa25_4 rfl rfl) ?_
  refine TL.y rfl rfl (y_loadv sc2 (fun _ hC => hC.2.1) rfl rfl) ?_
  refine TL.y rfl rfl (y_lt rfl rfl) ?_
  refine TL.yc rfl rfl (y_mov (v := .bool _) rfl) ?_
  refine TL.split (t := 24) rfl rfl (fun h1 => ?_) (fun h1 => ?_)
  · with_reducible first | (replace h1 := deNF h1) | (replace h1 := of_decide_eq_true h1) | (replace h1 := of_decide_eq_false h1) | (replace h1 := deNT h1) | (replace h1 := deNN h1) | (replace h1 := bnT h1) | (replace h1 := bnF h1) | skip
    refine TL.pass (t := 24) rfl rfl rfl rfl ?_
    refine TL.pass (t := 24) rfl rfl rfl rfl ?_
    refine TL.pass (t := 24) rfl rfl rfl rfl ?_
    refine TL.yc rfl rfl (y_pickT (v := .bool _) rfl rfl) ?_
    refine TL.yc rfl rfl (y_asg (v := .bool _) rfl) ?_
    refine TL.nil (fun hC => ?_)
    refine Fin.next ?_
    refine CW.ret ?_
    refine Fin.thenRet ?_
    refine Fin.ret1 rfl (by conv => lhs; whnf) ?_
    exact ⟨_, rfl, rfl, by rw [if_neg (by omega), Int.add_zero]; exact ⟨vk, hD.1, ho.ext hEd, hnb, hD.2.1, hD.2.2, haf.ext hEd, hsf.ext hEd, hct.ext hEd, hE.trans hEd⟩⟩
  · with_reducible first | (replace h1 := deNF h1) | (replace h1 := of_decide_eq_true h1) | (replace h1 := of_decide_eq_false h1) | (replace h1 := deNT h1) | (replace h1 := deNN h1) | (replace h1 := bnT h1) | (replace h1 := bnF h1) | skip
    refine TL.take (t := 24) rfl rfl rfl ?_
    refine TL.y rfl rfl (y_loadv sc111 (fun _ hC => hC.2.2) rfl rfl) ?_
    refine TL.take (t := 24) rfl rfl rfl ?_
    refine TL.y rfl rfl (y_loadv sc29 (fun _ hC => hC.1) rfl rfl) ?_
    refine TL.take (t := 24) rfl rfl rfl ?_
    refine TL.op rfl (fun hC => ?_)
    refine RL.callw rfl rfl (countKeys1_any (hct.ext hEd) (by omega)) ?_
    rintro r w3 ⟨rfl, hct3, hM3⟩
    have hK3 := hD.1.mod hM3 (by omega)
    have hmk3 := hD.2.1.mod hM3 (by omega)
    have hvf3 := hD.2.2.mod hM3 (by omega)
    refine RL.nil ?_
    refine Fin.tl (⟨hK3, hmk3, hvf3⟩) ?_
    refine TL.yc rfl rfl (y_pickF (v := .bool _) rfl rfl) ?_
    refine TL.yc rfl rfl (y_asg (v := .bool _) rfl) ?_
    refine TL.nil (fun hC => ?_)
    refine Fin.next ?_
    refine CW.ret ?_
    refine Fin.thenRet ?_
    refine Fin.ret1 rfl (by conv => lhs; whnf) ?_
    exact ⟨_, rfl, rfl, by rw [if_pos (by omega)]; exact ⟨vk, hK3, OV.modx (ho.ext hEd) hM3 (fun x hx => (hnb x hx).2.2.2.2.2), hnb, hmk3, hvf3, (haf.ext hEd).mod hM3 (by omega), (hsf.ext hEd).mod hM3 (by omega), hct3, (hE.trans hEd).then_mod hM3 (by omega)⟩⟩
end Go.Proofs.Ytaepdknmagaokaa
