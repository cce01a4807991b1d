/-
  Reading a building.
-/
import Derived.Test.YtebegkegkdmbjaaDoorFTxt
import Derived.Test.YtebegkegkdmbjaaDoorShelfE
import Derived.Test.YtebegkegkdmbjaaDoorIfn
import Derived.Test.YtebegkegkdmbjaaDoorRb
import Derived.Lib.SmallJoins
namespace Go.Proofs.YtebegkegkdmbjaaDoor
open B Go.RowKit

/-- What the library's variables hold, as far as it is looked at. -/
def Lf (w : World) : Prop := Tb w ∧ (∃ tp p, w.var? Tryd.prog "strconv.ErrSyntax" = some #[.iface tp p]) ∧ (∃ tp p, w.var? Tryd.prog "strconv.ErrRange" = some #[.iface tp p]) ∧ (∃ m, w.cell? ⟨0, 0, none⟩ = some (.int .i64 m))
theorem Lf.ext {w w' : World} (h : Lf w) (he : Ext w w') : Lf w' := by
  obtain ⟨h1, ⟨a, b, h2⟩, ⟨c, d, h3⟩, ⟨m, h4⟩⟩ := h
  exact ⟨h1.ext he, ⟨a, b, var_ext h2 he⟩, ⟨c, d, var_ext h3 he⟩, ⟨m, cell_ext h4 he⟩⟩
theorem split_any {w : World} {s : List UInt8} (hf : Lf w) (hs : s.length < 4294967281) : Does Tryd.prog 24 #[.string ⟨s.toArray⟩, .string ⟨#[32]⟩] w (fun r w' => (SV w' r (strs (spl s)) ∧ r.ownBlock = some w.heap.size) ∧ Ext w w') := by
  refine ⟨enters_of Tryd.func24 (by kernel_rfl) rfl, ?_⟩
  obtain ⟨_, _, _, m, hm⟩ := hf
  have hsz : (ByteArray.mk s.toArray).size = s.length := by simp [ByteArray.size]
  refine (Tryd.strings_Split ⟨s.toArray⟩ ⟨#[32]⟩ m w (by rw [hsz]; exact hs) hm (by decide)).mono (fun e w' ⟨he, hw⟩ => ?_)
  have hc : Lib.countB ⟨s.toArray⟩ ⟨#[32]⟩ = s.count 32 := by
    show Lib.count s [32] = _
    exact Lib.count_one 32 s
  have hl := Lib.splitB_all ⟨#[32]⟩ (by decide) 0 (Lib.countB ⟨s.toArray⟩ ⟨#[32]⟩) ⟨s.toArray⟩ rfl
  have hd := Lib.splitB_data ⟨#[32]⟩ 0 (Lib.countB ⟨s.toArray⟩ ⟨#[32]⟩) ⟨s.toArray⟩
  have hcs : (Lib.splitB ⟨#[32]⟩ 0 (Lib.countB ⟨s.toArray⟩ ⟨#[32]⟩) ⟨s.toArray⟩).map Value.string = strs (spl s) := by
    have h1 : (Lib.splitB ⟨#[32]⟩ 0 (Lib.countB ⟨s.toArray⟩ ⟨#[32]⟩) ⟨s.toArray⟩).map (·.data.toList) = spl s := by
      rw [hd, hc]; exact splitK_spl s
    rw [← h1]
    unfold strs
    rw [List.map_map]
    exact List.map_congr_left (fun b _ => by simp)
  have hln : (strs (spl s)).length = Lib.countB ⟨s.toArray⟩ ⟨#[32]⟩ + 1 := by rw [← hcs, List.length_map, hl]
  have hsl := spl_len s
  have hov := OV.made (e := 9) w (strs (spl s)) (by rw [strs_len]; omega)
  rw [hcs] at hw
  rw [hln] at hov
  subst hw
  exact ⟨_, he, ⟨hov.sv, rfl⟩, Ext.alloc _ _⟩

theorem parse_ok {w : World} {s : List UInt8} {v : Int} (hs : s.length ≤ 281474976710656) (h : Lib.parseIntB 64 s = .ok v) : Does Tryd.prog 50 #[.string ⟨s.toArray⟩, .int .i64 10, .int .i64 64] w (fun r w' => r = .tuple #[.int .i64 v, .nilIface] ∧ Ext w w') := by
  refine ⟨enters_of Tryd.func50 (by kernel_rfl) rfl, ?_⟩
  have hsz : (ByteArray.mk s.toArray).size = s.length := by simp [ByteArray.size]
  refine (Tryd.strconv_ParseInt_10_at64_ok ⟨s.toArray⟩ (by rw [hsz]; omega) v h w).mono (fun e w' ⟨he, hw⟩ => ⟨_, he, rfl, ?_⟩)
  rcases hw with rfl | ⟨t, rfl⟩
  · exact Ext.refl _
  · exact Joins.below_bytesWorld _ w _ t (Nat.le_refl _)
theorem parse_no {w : World} {s : List UInt8} (hf : Lf w) (hs : s.length ≤ 281474976710656) (h : ∀ v, Lib.parseIntB 64 s ≠ .ok v) : Does Tryd.prog 50 #[.string ⟨s.toArray⟩, .int .i64 10, .int .i64 64] w (fun r w' => ∃ v tp p, r = .tuple #[.int .i64 v, .iface tp p] ∧ Ext w w') := by
  refine ⟨enters_of Tryd.func50 (by kernel_rfl) rfl, ?_⟩
  have hsz : (ByteArray.mk s.toArray).size = s.length := by simp [ByteArray.size]
  obtain ⟨_, ⟨a, b, h2⟩, ⟨c, d, h3⟩, _⟩ := hf
  cases hp : Lib.parseIntB 64 s
  · exact absurd hp (h _)
  · exact (Any.strconv_ParseInt_10_at64_syntax_var Tryd.laysC174 ⟨s.toArray⟩ (by rw [hsz]; exact hs) hp a b w h2).mono (fun e w' ⟨N, he, _, _, hw⟩ => ⟨_, he, _, _, _, rfl, hw⟩)
  · exact (Any.strconv_ParseInt_10_at64_range_var Tryd.laysC174 ⟨s.toArray⟩ (by rw [hsz]; exact hs) hp c d w h3).mono (fun e w' ⟨N, he, _, _, hw⟩ => ⟨_, he, _, _, _, rfl, hw⟩)

theorem number_ok {w : World} {s : List UInt8} {v : Int} (hf : Lf w) (hs : s.length ≤ 281474976710656) (hp : Lib.parseIntB 64 s = .ok v) :
    Does Tryd.prog 25 #[.string ⟨s.toArray⟩] w (fun r w' => r = .tuple #[.int .i64 v, .bool (decide (Lib.itoa v = s))] ∧ Ext w w') := by
  have hb := Lib.parseIntB_bounds hp
  refine enter Tryd.func25 rfl 20 Tryd.ntmps25 rfl (by kernel_rfl) ?_
  refine CW.seq ?_
  refine CW.region ?_
  refine RL.y rfl (y_asg rfl) ?_
  refine RL.y rfl (y_asg rfl) ?_
  refine RL.nil ?_
  refine Fin.next ?_
  refine CW.seq ?_
  refine CW.region ?_
  refine RL.y rfl (y_mov (v := .string _) rfl) ?_
  refine RL.call rfl (parse_ok hs hp) ?_
  rintro r w2 ⟨rfl, hE2⟩
  refine RL.y rfl (y_mov (by conv => lhs; whnf)) ?_
  refine RL.y rfl (y_ext0 rfl) ?_
  refine RL.y rfl (y_ext1 rfl) ?_
  refine RL.y rfl (y_asg (v := .int _ _) rfl) ?_
  refine RL.y rfl (y_asg (by conv => lhs; whnf)) ?_
  refine RL.nil ?_
  refine Fin.next ?_
  refine CW.seq ?_
  refine CW.region ?_
  refine RL.y rfl (y_mov (v := .int _ _) rfl) ?_
  refine RL.y rfl (y_mov (by conv => lhs; whnf)) ?_
  refine RL.y rfl (y_inil (b := true) (fun w => by kernel_rfl) (fun w => rfl) rfl) ?_
  refine RL.y rfl (y_mov (v := .bool _) rfl) ?_
  refine RL.force (t := 14) true rfl rfl (rfl) ?_
  refine RL.take (t := 14) rfl rfl rfl ?_
  refine RL.y rfl (y_mov (v := .int _ _) rfl) ?_
  refine RL.take (t := 14) rfl rfl rfl ?_
  refine RL.call rfl (text_any (hf.1.ext hE2) (by omega) (by omega)) ?_
  rintro r w3 ⟨rfl, hE3⟩
  refine RL.take (t := 14) rfl rfl rfl ?_
  refine RL.y rfl (y_mov (v := .string _) rfl) ?_
  refine RL.take (t := 14) rfl rfl rfl ?_
  refine RL.y rfl (y_seq rfl rfl) ?_
  refine RL.y rfl (y_pickT (v := .bool _) rfl rfl) ?_
  refine RL.y rfl (y_asg (v := .int _ _) rfl) ?_
  refine RL.y rfl (y_asg (v := .bool _) rfl) ?_
  refine RL.nil ?_
  refine Fin.next ?_
  refine CW.ret ?_
  refine Fin.ret2 rfl (by conv => lhs; whnf) (by conv => lhs; whnf) ?_
  exact ⟨_, rfl, rfl, hE2.trans hE3⟩
theorem number_no {w : World} {s : List UInt8} (hf : Lf w) (hs : s.length ≤ 281474976710656) (hp : ∀ v, Lib.parseIntB 64 s ≠ .ok v) :
    Does Tryd.prog 25 #[.string ⟨s.toArray⟩] w (fun r w' => ∃ v, r = .tuple #[.int .i64 v, .bool false] ∧ Ext w w') := by
  refine enter Tryd.func25 rfl 20 Tryd.ntmps25 rfl (by kernel_rfl) ?_
  refine CW.seq ?_
  refine CW.region ?_
  refine RL.y rfl (y_asg rfl) ?_
  refine RL.y rfl (y_asg rfl) ?_
  refine RL.nil ?_
  refine Fin.next ?_
  refine CW.seq ?_
  refine CW.region ?_
  refine RL.y rfl (y_mov (v := .string _) rfl) ?_
  refine RL.call rfl (parse_no hf hs hp) ?_
  rintro r w2 ⟨v, tp, p, rfl, hE2⟩
  refine RL.y rfl (y_mov (by conv => lhs; whnf)) ?_
  refine RL.y rfl (y_ext0 rfl) ?_
  refine RL.y rfl (y_ext1 rfl) ?_
  refine RL.y rfl (y_asg (v := .int _ _) rfl) ?_
  refine RL.y rfl (y_asg (by conv => lhs; whnf)) ?_
  refine RL.nil ?_
  refine Fin.next ?_
  refine CW.seq ?_
  refine CW.region ?_
  refine RL.y rfl (y_mov (v := .int _ _) rfl) ?_
  refine RL.y rfl (y_mov (by conv => lhs; whnf)) ?_
  refine RL.y rfl (y_inil (b := false) (fun w => by kernel_rfl) (fun w => rfl) rfl) ?_
  refine RL.y rfl (y_mov (v := .bool _) rfl) ?_
  refine RL.force (t := 14) false rfl rfl (rfl) ?_
  refine RL.pass (t := 14) rfl rfl rfl rfl ?_
  refine RL.pass (t := 14) rfl rfl rfl rfl ?_
  refine RL.pass (t := 14) rfl rfl rfl rfl ?_
  refine RL.pass (t := 14) rfl rfl rfl rfl ?_
  refine RL.y rfl (y_pickF (v := .bool _) rfl rfl) ?_
  refine RL.y rfl (y_asg (v := .int _ _) rfl) ?_
  refine RL.y rfl (y_asg (v := .bool _) rfl) ?_
  refine RL.nil ?_
  refine Fin.next ?_
  refine CW.ret ?_
  refine Fin.ret2 rfl (by conv => lhs; whnf) (by conv => lhs; whnf) ?_
  exact ⟨_, rfl, _, rfl, hE2⟩
theorem number_any {w : World} {s : List UInt8} (hf : Lf w) (hs : s.length ≤ 281474976710656) : Does Tryd.prog 25 #[.string ⟨s.toArray⟩] w (fun r w' => ∃ v ok, r = .tuple #[.int .i64 v, .bool ok] ∧ (ok = true → s = Lib.itoa v) ∧ (ok = false → ∀ u, -9223372036854775808 ≤ u → u ≤ 9223372036854775807 → s ≠ Lib.itoa u) ∧ Ext w w') := by
  by_cases h : ∃ v, Lib.parseIntB 64 s = .ok v
  · obtain ⟨v, hv⟩ := h
    refine (number_ok hf hs hv).mono (fun r w' ⟨hr, he⟩ => ⟨_, _, hr, fun h1 => (of_decide_eq_true h1).symm, fun h1 u h2 h3 e => ?_, he⟩)
    have hp := parse_itoa h2 h3
    rw [← e, hv] at hp
    injection hp with hp
    subst hp
    exact of_decide_eq_false h1 e.symm
  · exact (number_no hf hs (fun v hv => h ⟨v, hv⟩)).mono (fun r w' ⟨v, hr, he⟩ => ⟨_, _, hr, fun h1 => by (cases h1), fun _ u h2 h3 e => h ⟨u, by rw [e]; exact parse_itoa h2 h3⟩, he⟩)

theorem dd_two {u : Nat} (h : u ≤ 22) : 1 ≤ (Lib.decDigits u).length ∧ (Lib.decDigits u).length ≤ 13 := by
  by_cases h1 : u < 10
  · rw [Lib.decDigits_one h1]; simp
  · rw [Lib.decDigits_two h1 (by omega)]; simp
theorem l01Value_any {w : World} {s : List UInt8} (hs : s.length ≤ 281474976710656) :
    Does Tryd.prog 21 #[.string ⟨s.toArray⟩] w (fun r w' => ∃ v ok, r = .tuple #[.int .i64 v, .bool ok] ∧ (ok = true → ∃ u : Nat, v = (u : Int) ∧ s = Lib.decDigits u) ∧ (ok = false → ∀ u : Nat, u ≤ 22 → s ≠ Lib.decDigits u) ∧ Ext w w') := by
  have hdl : ∀ u : Nat, u ≤ 22 → 1 ≤ (Lib.decDigits u).length ∧ (Lib.decDigits u).length ≤ 13 := fun u hu => dd_two hu
  refine enter Tryd.func21 rfl 43 Tryd.ntmps21 rfl (by kernel_rfl) ?_
  refine CW.seq ?_
  refine CW.region ?_
  refine RL.y rfl (y_asg rfl) ?_
  refine RL.y rfl (y_asg rfl) ?_
  refine RL.nil ?_
  refine Fin.next ?_
  refine CW.seq ?_
  refine CW.seq ?_
  refine CW.region ?_
  refine RL.y rfl (y_mov (v := .string _) rfl) ?_
  refine RL.y rfl (y_slen Tryd.underlying9 rfl) ?_
  refine RL.y rfl (y_lt rfl rfl) ?_
  refine RL.y rfl (y_mov (v := .bool _) rfl) ?_
  refine RL.split (t := 9) rfl rfl (fun h1 => ?_) (fun h1 => ?_)
  · with_reducible first | (replace h1 := deNF h1) | (replace h1 := of_decide_eq_true h1) | (replace h1 := of_decide_eq_false h1) | (replace h1 := deNT h1) | (replace h1 := deNN h1) | (replace h1 := bnT h1) | (replace h1 := bnF h1) | skip
    refine RL.pass (t := 9) rfl rfl rfl rfl ?_
    refine RL.pass (t := 9) rfl rfl rfl rfl ?_
    refine RL.pass (t := 9) rfl rfl rfl rfl ?_
    refine RL.y rfl (y_pickT (v := .bool _) rfl rfl) ?_
    refine RL.nil ?_
    refine Fin.next ?_
    refine CW.condT rfl rfl ?_
    refine CW.seq ?_
    refine CW.region ?_
    refine RL.y rfl (y_asg rfl) ?_
    refine RL.y rfl (y_asg rfl) ?_
    refine RL.nil ?_
    refine Fin.next ?_
    refine CW.ret ?_
    refine Fin.thenRet ?_
    refine Fin.ret2 rfl (by conv => lhs; whnf) (by conv => lhs; whnf) ?_
    exact ⟨_, rfl, _, _, rfl, fun h => by (cases h), fun _ u hu e => by have := hdl u hu; rw [← e] at this; omega, Ext.refl w⟩
  · with_reducible first | (replace h1 := deNF h1) | (replace h1 := of_decide_eq_true h1) | (replace h1 := of_decide_eq_false h1) | (replace h1 := deNT h1) | (replace h1 := deNN h1) | (replace h1 := bnT h1) | (replace h1 := bnF h1) | skip
    refine RL.take (t := 9) rfl rfl rfl ?_
    refine RL.y rfl (y_mov (v := .string _) rfl) ?_
    refine RL.take (t := 9) rfl rfl rfl ?_
    refine RL.y rfl (y_slen Tryd.underlying9 rfl) ?_
    refine RL.take (t := 9) rfl rfl rfl ?_
    refine RL.y rfl (y_gt rfl rfl) ?_
    refine RL.y rfl (y_pickF (v := .bool _) rfl rfl) ?_
    refine RL.nil ?_
    refine Fin.next ?_
    refine CW.cond rfl rfl (fun h2 => ?_) (fun h2 => ?_)
    · with_reducible first | (replace h2 := deNF h2) | (replace h2 := of_decide_eq_true h2) | (replace h2 := of_decide_eq_false h2) | (replace h2 := deNT h2) | (replace h2 := deNN h2) | (replace h2 := bnT h2) | (replace h2 := bnF h2) | skip
      refine CW.seq ?_
      refine CW.region ?_
      refine RL.y rfl (y_asg rfl) ?_
      refine RL.y rfl (y_asg rfl) ?_
      refine RL.nil ?_
      refine Fin.next ?_
      refine CW.ret ?_
      refine Fin.thenRet ?_
      refine Fin.ret2 rfl (by conv => lhs; whnf) (by conv => lhs; whnf) ?_
      exact ⟨_, rfl, _, _, rfl, fun h => by (cases h), fun _ u hu e => by have := hdl u hu; rw [← e] at this; omega, Ext.refl w⟩
    · with_reducible first | (replace h2 := deNF h2) | (replace h2 := of_decide_eq_true h2) | (replace h2 := of_decide_eq_false h2) | (replace h2 := deNT h2) | (replace h2 := deNN h2) | (replace h2 := bnT h2) | (replace h2 := bnF h2) | skip
      refine CW.skip ?_
      refine Fin.next ?_
      refine CW.seq ?_
      refine CW.region ?_
      refine RL.y rfl (y_asg rfl) ?_
      refine RL.nil ?_
      refine Fin.next ?_
      refine CW.seq ?_
      refine CW.seq ?_
      refine CW.region ?_
      refine RL.y rfl (y_asg rfl) ?_
      refine RL.nil ?_
      refine Fin.next ?_
      refine CW.block ?_
      refine CW.loop (fun m E w' => ∃ k : Nat, m = s.length - k ∧ k ≤ s.length ∧ agrees E [(0, .string ⟨s.toArray⟩), (4, .int .i64 ((dval (s.take k) : Nat) : Int)), (5, .int .i64 (k : Int))] ∧ (∀ c ∈ s.take k, 48 ≤ c.toNat ∧ c.toNat ≤ 57) ∧ w = w') _ ⟨0, rfl, Nat.zero_le _, ⟨rfl, rfl, rfl, trivial⟩, (fun c hc => by simp at hc), rfl⟩ ?_
      · rintro m E w2 ⟨k, rfl, hkk, hagk, hdg, rfl⟩
        refine CW.re _ hagk rfl ?_
        clear hagk
        refine CW.seq ?_
        refine CW.seq ?_
        refine CW.region ?_
        refine RL.y rfl (y_mov (v := .int _ _) rfl) ?_
        refine RL.y rfl (y_mov (v := .string _) rfl) ?_
        refine RL.y rfl (y_slen Tryd.underlying9 rfl) ?_
        refine RL.y rfl (y_lt rfl rfl) ?_
        refine RL.nil ?_
        refine Fin.next ?_
        refine CW.cond rfl rfl (fun hck => ?_) (fun hck => ?_)
        · with_reducible first | (replace hck := deNF hck) | (replace hck := of_decide_eq_true hck) | (replace hck := of_decide_eq_false hck) | (replace hck := deNT hck) | (replace hck := deNN hck) | (replace hck := bnT hck) | (replace hck := bnF hck) | skip
          have hltk : k < s.length := by omega
          have hsk : s[k]? = some s[k] := List.getElem?_eq_getElem hltk
          have hcb := UInt8.toNat_lt s[k]
          have hdv := dval_lt k (s.take k) (by rw [List.length_take]; omega) (fun c hc => (hdg c hc).2)
          have hdp : 10 ^ k ≤ 10 ^ 12 := Nat.pow_le_pow_right (by omega) (by omega)
          have hsn : s.take (k + 1) = s.take k ++ [s[k]] := List.take_succ_eq_append_getElem hltk
          refine CW.skip ?_
          refine Fin.next ?_
          refine CW.seq ?_
          refine CW.block ?_
          refine CW.seq ?_
          refine CW.seq ?_
          refine CW.region ?_
          refine RL.y rfl (y_mov (v := .string _) rfl) ?_
          refine RL.y rfl (y_mov (v := .int _ _) rfl) ?_
          refine RL.y rfl (y_sidx Tryd.underlying9 (hsk) rfl rfl) ?_
          refine RL.y rfl (y_lt rfl rfl) ?_
          refine RL.y rfl (y_mov (v := .bool _) rfl) ?_
          refine RL.split (t := 24) rfl rfl (fun h3 => ?_) (fun h3 => ?_)
          · with_reducible first | (replace h3 := deNF h3) | (replace h3 := of_decide_eq_true h3) | (replace h3 := of_decide_eq_false h3) | (replace h3 := deNT h3) | (replace h3 := deNN h3) | (replace h3 := bnT h3) | (replace h3 := bnF h3) | skip
            refine RL.pass (t := 24) rfl rfl rfl rfl ?_
            refine RL.pass (t := 24) rfl rfl rfl rfl ?_
            refine RL.pass (t := 24) rfl rfl rfl rfl ?_
            refine RL.pass (t := 24) rfl rfl rfl rfl ?_
            refine RL.y rfl (y_pickT (v := .bool _) rfl rfl) ?_
            refine RL.nil ?_
            refine Fin.next ?_
            refine CW.condT rfl rfl ?_
            refine CW.seq ?_
            refine CW.region ?_
            refine RL.y rfl (y_asg rfl) ?_
            refine RL.y rfl (y_asg rfl) ?_
            refine RL.nil ?_
            refine Fin.next ?_
            refine CW.ret ?_
            refine Fin.thenRet ?_
            refine Fin.blockRet ?_
            refine Fin.thenRet ?_
            refine Fin.thenRet ?_
            refine Fin.blockRet ?_
            refine Fin.thenRet ?_
            refine Fin.ret2 rfl (by conv => lhs; whnf) (by conv => lhs; whnf) ?_
            exact ⟨_, rfl, _, _, rfl, fun h => by (cases h), fun _ u hu e => by have := dd_dig u s[k] (by rw [← e]; exact List.getElem_mem hltk); omega, Ext.refl w⟩
          · with_reducible first | (replace h3 := deNF h3) | (replace h3 := of_decide_eq_true h3) | (replace h3 := of_decide_eq_false h3) | (replace h3 := deNT h3) | (replace h3 := deNN h3) | (replace h3 := bnT h3) | (replace h3 := bnF h3) | skip
            refine RL.take (t := 24) rfl rfl rfl ?_
            refine RL.y rfl (y_mov (v := .string _) rfl) ?_
            refine RL.take (t := 24) rfl rfl rfl ?_
            refine RL.y rfl (y_mov (v := .int _ _) rfl) ?_
            refine RL.take (t := 24) rfl rfl rfl ?_
            refine RL.y rfl (y_sidx Tryd.underlying9 (hsk) rfl rfl) ?_
            refine RL.take (t := 24) rfl rfl rfl ?_
            refine RL.y rfl (y_gt rfl rfl) ?_
            refine RL.y rfl (y_pickF (v := .bool _) rfl rfl) ?_
            refine RL.nil ?_
            refine Fin.next ?_
            refine CW.cond rfl rfl (fun h4 => ?_) (fun h4 => ?_)
            · with_reducible first | (replace h4 := deNF h4) | (replace h4 := of_decide_eq_true h4) | (replace h4 := of_decide_eq_false h4) | (replace h4 := deNT h4) | (replace h4 := deNN h4) | (replace h4 := bnT h4) | (replace h4 := bnF h4) | skip
              refine CW.seq ?_
              refine CW.region ?_
              refine RL.y rfl (y_asg rfl) ?_
              refine RL.y rfl (y_asg rfl) ?_
              refine RL.nil ?_
              refine Fin.next ?_
              refine CW.ret ?_
              refine Fin.thenRet ?_
              refine Fin.blockRet ?_
              refine Fin.thenRet ?_
              refine Fin.thenRet ?_
              refine Fin.blockRet ?_
              refine Fin.thenRet ?_
              refine Fin.ret2 rfl (by conv => lhs; whnf) (by conv => lhs; whnf) ?_
              exact ⟨_, rfl, _, _, rfl, fun h => by (cases h), fun _ u hu e => by have := dd_dig u s[k] (by rw [← e]; exact List.getElem_mem hltk); omega, Ext.refl w⟩
            · with_reducible first | (replace h4 := deNF h4) | (replace h4 := of_decide_eq_true h4) | (replace h4 := of_decide_eq_false h4) | (replace h4 := deNT h4) | (replace h4 := deNN h4) | (replace h4 := bnT h4) | (replace h4 := bnF h4) | skip
              refine CW.skip ?_
              refine Fin.next ?_
              refine CW.region ?_
              refine RL.y rfl (y_mov (v := .int _ _) rfl) ?_
              refine RL.y rfl (y_mul rfl rfl (IntWalk.i64_in _ (by omega))) ?_
              refine RL.y rfl (y_mov (v := .string _) rfl) ?_
              refine RL.y rfl (y_mov (v := .int _ _) rfl) ?_
              refine RL.y rfl (y_sidx Tryd.underlying9 (hsk) rfl rfl) ?_
              refine RL.y rfl (y_sub rfl rfl (IntWalk.u8_in _ (by omega))) ?_
              refine RL.y rfl (y_conv ⟨_, Tryd.underlying5⟩ Tryd.underlying2 rfl (IntWalk.i64_in _ (by omega))) ?_
              refine RL.y rfl (y_add rfl rfl (IntWalk.i64_in _ (by omega))) ?_
              refine RL.y rfl (y_asg (v := .int _ _) rfl) ?_
              refine RL.nil ?_
              refine Fin.blockNormal ?_
              refine Fin.next ?_
              refine CW.region ?_
              refine RL.y rfl (y_mov (v := .int _ _) rfl) ?_
              refine RL.y rfl (y_add rfl rfl (IntWalk.i64_in _ (by omega))) ?_
              refine RL.y rfl (y_asg (v := .int _ _) rfl) ?_
              refine RL.nil ?_
              refine Fin.le ?_
              exact ⟨s.length - (k + 1), by omega, k + 1, rfl, hltk, ⟨rfl, by rw [hsn, dval_snoc]; exact congrArg (Value.int .i64) (by omega), rfl, trivial⟩, (by rw [hsn]; intro c hc; rcases List.mem_append.1 hc with h | h; exact hdg c h; obtain rfl := List.mem_singleton.1 h; omega), rfl⟩
        · with_reducible first | (replace hck := deNF hck) | (replace hck := of_decide_eq_true hck) | (replace hck := of_decide_eq_false hck) | (replace hck := deNT hck) | (replace hck := deNN hck) | (replace hck := bnT hck) | (replace hck := bnF hck) | skip
          obtain rfl : s.length = k := by omega
          rw [List.take_length] at hdg
          rw [List.take_length]
          have hdv := dval_lt s.length s rfl (fun c hc => (hdg c hc).2)
          have hdp : 10 ^ s.length ≤ 10 ^ 13 := Nat.pow_le_pow_right (by omega) (by omega)
          refine CW.exit ?_
          refine Fin.thenExit ?_
          refine Fin.thenExit ?_
          refine Fin.blockHit ?_
          refine Fin.next ?_
          refine CW.seq ?_
          refine CW.region ?_
          refine RL.y rfl (y_mov (v := .int _ _) rfl) ?_
          refine RL.y rfl (y_mov (v := .int _ _) rfl) ?_
          refine RL.call rfl (l01Dec_any (dval s) w (by omega)) ?_
          rintro r w2 ⟨rfl, hE2⟩
          refine RL.y rfl (y_mov (v := .string _) rfl) ?_
          refine RL.y rfl (y_seq rfl rfl) ?_
          refine RL.y rfl (y_asg (v := .int _ _) rfl) ?_
          refine RL.y rfl (y_asg (v := .bool _) rfl) ?_
          refine RL.nil ?_
          refine Fin.next ?_
          refine CW.ret ?_
          refine Fin.ret2 rfl (by conv => lhs; whnf) (by conv => lhs; whnf) ?_
          exact ⟨_, rfl, _, _, rfl, fun h => ⟨dval s, rfl, (of_decide_eq_true h).symm⟩, fun h u hu e => of_decide_eq_false h (by rw [e, dval_dec]), hE2⟩

theorem drop_cut {s : List UInt8} {a i : Nat} (h1 : a ≤ i) (h2 : i < s.length) : s.drop a = (s.take i).drop a ++ s[i] :: s.drop (i + 1) := by
  have e : s = s.take i ++ s[i] :: s.drop (i + 1) := by rw [← List.drop_eq_getElem_cons h2, List.take_append_drop]
  conv => lhs; rw [e]
  rw [List.drop_append_of_le_length (by rw [List.length_take]; omega)]
theorem l01Split_any {w : World} {s : List UInt8} (hs : s.length ≤ 4000000000) :
    Does Tryd.prog 20 #[.string ⟨s.toArray⟩, .int .u8 32] w (fun r w' => (SV w' r (strs (spl s)) ∧ InB w.heap.size w'.heap.size r) ∧ Ext w w') := by
  have hsl := spl_len s
  refine enter Tryd.func20 rfl 36 Tryd.ntmps20 rfl (by kernel_rfl) ?_
  refine CW.seq ?_
  refine CW.region ?_
  refine RL.y rfl (y_asg rfl) ?_
  refine RL.nil ?_
  refine Fin.next ?_
  refine CW.seq ?_
  refine CW.region ?_
  refine RL.lit0 rfl sT42 (fun vo w1 ho1 hE1 hb1 => ?_)
  refine RL.y rfl (y_asg (by conv => lhs; whnf)) ?_
  refine RL.nil ?_
  refine Fin.next ?_
  refine CW.seq ?_
  refine CW.region ?_
  refine RL.y rfl (y_asg rfl) ?_
  refine RL.nil ?_
  refine Fin.next ?_
  refine CW.seq ?_
  refine CW.seq ?_
  refine CW.region ?_
  refine RL.y rfl (y_asg rfl) ?_
  refine RL.nil ?_
  refine Fin.next ?_
  refine CW.block ?_
  refine CW.loop (fun m E w' => ∃ (i a : Nat) (vo : Value) (out : List (List UInt8)), m = s.length + 1 - i ∧ (i ≤ s.length + 1 ∧ a ≤ i ∧ (i ≤ s.length → (spl s = out ++ spl (s.drop a) ∧ 32 ∉ (s.take i).drop a)) ∧ (i = s.length + 1 → out = spl s) ∧ out.length ≤ i) ∧ agrees E [(0, .string ⟨s.toArray⟩), (1, .int .u8 32), (5, vo), (6, .int .i64 (a : Int)), (7, .int .i64 (i : Int))] ∧ OV w' w.heap.size 9 vo (strs out) ∧ Ext w w') _ (⟨0, 0, vo, [], rfl, ⟨by omega, Nat.le_refl _, fun _ => ⟨rfl, by simp⟩, fun h => absurd h (by omega), Nat.le_refl _⟩, ⟨rfl, rfl, rfl, rfl, rfl, trivial⟩, ho1, hE1⟩) ?_
  · rintro m E w2 ⟨i, a, vo, out, rfl, ⟨hi, hai, hin, hfin, hol⟩, hag, ho2, hE2⟩
    refine CW.re _ hag rfl ?_
    refine CW.seq ?_
    refine CW.seq ?_
    refine CW.region ?_
    refine RL.y rfl (y_mov (v := .int _ _) rfl) ?_
    refine RL.y rfl (y_mov (v := .string _) rfl) ?_
    refine RL.y rfl (y_slen Tryd.underlying9 rfl) ?_
    refine RL.y rfl (y_le rfl rfl) ?_
    refine RL.nil ?_
    refine Fin.next ?_
    refine CW.cond rfl rfl (fun hci => ?_) (fun hci => ?_)
    · with_reducible first | (replace hci := deNF hci) | (replace hci := of_decide_eq_true hci) | (replace hci := of_decide_eq_false hci) | (replace hci := deNT hci) | (replace hci := deNN hci) | (replace hci := bnT hci) | (replace hci := bnF hci) | skip
      obtain ⟨hsp, hfr⟩ := hin (by omega)
      refine CW.skip ?_
      refine Fin.next ?_
      refine CW.seq ?_
      refine CW.block ?_
      refine CW.seq ?_
      refine CW.region ?_
      refine RL.y rfl (y_mov (v := .int _ _) rfl) ?_
      refine RL.y rfl (y_mov (v := .string _) rfl) ?_
      refine RL.y rfl (y_slen Tryd.underlying9 rfl) ?_
      refine RL.y rfl (y_eq rfl rfl) ?_
      refine RL.y rfl (y_mov (v := .bool _) rfl) ?_
      refine RL.split (t := 19) rfl rfl (fun h1 => ?_) (fun h1 => ?_)
      · with_reducible first | (replace h1 := deNF h1) | (replace h1 := of_decide_eq_true h1) | (replace h1 := of_decide_eq_false h1) | (replace h1 := deNT h1) | (replace h1 := deNN h1) | (replace h1 := bnT h1) | (replace h1 := bnF h1) | skip
        obtain rfl : i = s.length := by omega
        rw [List.take_length] at hfr
        have hpart : spl s = out ++ [(s.take s.length).drop a] := by rw [hsp, spl_free _ hfr, List.take_length]
        refine RL.pass (t := 19) rfl rfl rfl rfl ?_
        refine RL.pass (t := 19) rfl rfl rfl rfl ?_
        refine RL.pass (t := 19) rfl rfl rfl rfl ?_
        refine RL.pass (t := 19) rfl rfl rfl rfl ?_
        refine RL.pass (t := 19) rfl rfl rfl rfl ?_
        refine RL.y rfl (y_pickT (v := .bool _) rfl rfl) ?_
        refine RL.nil ?_
        refine Fin.next ?_
        refine CW.condT rfl rfl ?_
        refine CW.seq ?_
        refine CW.region ?_
        refine RL.y rfl (y_mov (by conv => lhs; whnf)) ?_
        refine RL.y rfl (y_mov (v := .string _) rfl) ?_
        refine RL.y rfl (y_mov (v := .int _ _) rfl) ?_
        refine RL.y rfl (y_mov (v := .int _ _) rfl) ?_
        refine RL.y rfl (y_scutB Tryd.underlying9 hai (Nat.le_refl _) rfl rfl rfl) ?_
        refine RL.app1 rfl rfl sT42 (by omega) ho2 (by rw [strs_len]; omega) hE2.size rfl (rfl) (fun _ => rfl) (fun u v3 w3 ho3 hg3 hn3 => ?_)
        replace ho3 : OV w3 w.heap.size 9 v3 (strs (out ++ [(s.take s.length).drop a])) := by rw [← strs_app]; exact ho3
        refine RL.y rfl (y_asg (by conv => lhs; whnf)) ?_
        refine RL.nil ?_
        refine Fin.next ?_
        refine CW.region ?_
        refine RL.y rfl (y_mov (v := .int _ _) rfl) ?_
        refine RL.y rfl (y_add rfl rfl (IntWalk.i64_in _ (by omega))) ?_
        refine RL.y rfl (y_asg (v := .int _ _) rfl) ?_
        refine RL.nil ?_
        refine Fin.blockNormal ?_
        refine Fin.next ?_
        refine CW.region ?_
        refine RL.y rfl (y_mov (v := .int _ _) rfl) ?_
        refine RL.y rfl (y_add rfl rfl (IntWalk.i64_in _ (by omega))) ?_
        refine RL.y rfl (y_asg (v := .int _ _) rfl) ?_
        refine RL.nil ?_
        refine Fin.le ?_
        exact ⟨s.length + 1 - (s.length + 1), by omega, s.length + 1, s.length + 1, v3, _, rfl, ⟨Nat.le_refl _, Nat.le_refl _, fun h => absurd h (by omega), fun _ => hpart.symm, by rw [List.length_append, List.length_singleton]; omega⟩, ⟨rfl, rfl, rfl, rfl, rfl, trivial⟩, ho3, hE2.grown hg3 (fun b hb => (ho2.lt b hb).1)⟩
      · with_reducible first | (replace h1 := deNF h1) | (replace h1 := of_decide_eq_true h1) | (replace h1 := of_decide_eq_false h1) | (replace h1 := deNT h1) | (replace h1 := deNN h1) | (replace h1 := bnT h1) | (replace h1 := bnF h1) | skip
        have hlt : i < s.length := by omega
        refine RL.take (t := 19) rfl rfl rfl ?_
        refine RL.y rfl (y_mov (v := .string _) rfl) ?_
        refine RL.take (t := 19) rfl rfl rfl ?_
        refine RL.y rfl (y_mov (v := .int _ _) rfl) ?_
        refine RL.take (t := 19) rfl rfl rfl ?_
        refine RL.y rfl (y_sidx Tryd.underlying9 ((show s[i]? = some s[i] from List.getElem?_eq_getElem hlt)) rfl rfl) ?_
        refine RL.take (t := 19) rfl rfl rfl ?_
        refine RL.y rfl (y_mov (v := .int _ _) rfl) ?_
        refine RL.take (t := 19) rfl rfl rfl ?_
        refine RL.y rfl (y_eq rfl rfl) ?_
        refine RL.y rfl (y_pickF (v := .bool _) rfl rfl) ?_
        refine RL.nil ?_
        refine Fin.next ?_
        refine CW.cond rfl rfl (fun h2 => ?_) (fun h2 => ?_)
        · with_reducible first | (replace h2 := deNF h2) | (replace h2 := of_decide_eq_true h2) | (replace h2 := of_decide_eq_false h2) | (replace h2 := deNT h2) | (replace h2 := deNN h2) | (replace h2 := bnT h2) | (replace h2 := bnF h2) | skip
          have hblank : s[i] = 32 := UInt8.toNat.inj (by have e : (32 : UInt8).toNat = 32 := rfl; omega)
          have hpart : spl s = (out ++ [(s.take i).drop a]) ++ spl (s.drop (i + 1)) := by rw [hsp, drop_cut hai hlt, hblank, spl_cons _ _ hfr, List.append_assoc]; rfl
          refine CW.seq ?_
          refine CW.region ?_
          refine RL.y rfl (y_mov (by conv => lhs; whnf)) ?_
          refine RL.y rfl (y_mov (v := .string _) rfl) ?_
          refine RL.y rfl (y_mov (v := .int _ _) rfl) ?_
          refine RL.y rfl (y_mov (v := .int _ _) rfl) ?_
          refine RL.y rfl (y_scutB Tryd.underlying9 hai (Nat.le_of_lt hlt) rfl rfl rfl) ?_
          refine RL.app1 rfl rfl sT42 (by omega) ho2 (by rw [strs_len]; omega) hE2.size rfl (rfl) (fun _ => rfl) (fun u v3 w3 ho3 hg3 hn3 => ?_)
          replace ho3 : OV w3 w.heap.size 9 v3 (strs (out ++ [(s.take i).drop a])) := by rw [← strs_app]; exact ho3
          refine RL.y rfl (y_asg (by conv => lhs; whnf)) ?_
          refine RL.nil ?_
          refine Fin.next ?_
          refine CW.region ?_
          refine RL.y rfl (y_mov (v := .int _ _) rfl) ?_
          refine RL.y rfl (y_add rfl rfl (IntWalk.i64_in _ (by omega))) ?_
          refine RL.y rfl (y_asg (v := .int _ _) rfl) ?_
          refine RL.nil ?_
          refine Fin.blockNormal ?_
          refine Fin.next ?_
          refine CW.region ?_
          refine RL.y rfl (y_mov (v := .int _ _) rfl) ?_
          refine RL.y rfl (y_add rfl rfl (IntWalk.i64_in _ (by omega))) ?_
          refine RL.y rfl (y_asg (v := .int _ _) rfl) ?_
          refine RL.nil ?_
          refine Fin.le ?_
          exact ⟨s.length + 1 - (i + 1), by omega, i + 1, i + 1, v3, _, rfl, ⟨by omega, Nat.le_refl _, fun _ => ⟨hpart, by rw [List.drop_eq_nil_of_le (by rw [List.length_take]; omega)]; simp⟩, fun h => absurd h (by omega), by rw [List.length_append, List.length_singleton]; omega⟩, ⟨rfl, rfl, rfl, rfl, rfl, trivial⟩, ho3, hE2.grown hg3 (fun b hb => (ho2.lt b hb).1)⟩
        · with_reducible first | (replace h2 := deNF h2) | (replace h2 := of_decide_eq_true h2) | (replace h2 := of_decide_eq_false h2) | (replace h2 := deNT h2) | (replace h2 := deNN h2) | (replace h2 := bnT h2) | (replace h2 := bnF h2) | skip
          have hnb : s[i] ≠ 32 := fun e => h2 (by rw [e]; rfl)
          refine CW.skip ?_
          refine Fin.blockNormal ?_
          refine Fin.next ?_
          refine CW.region ?_
          refine RL.y rfl (y_mov (v := .int _ _) rfl) ?_
          refine RL.y rfl (y_add rfl rfl (IntWalk.i64_in _ (by omega))) ?_
          refine RL.y rfl (y_asg (v := .int _ _) rfl) ?_
          refine RL.nil ?_
          refine Fin.le ?_
          exact ⟨s.length + 1 - (i + 1), by omega, i + 1, a, vo, out, rfl, ⟨by omega, by omega, fun _ => ⟨hsp, by rw [List.take_succ_eq_append_getElem hlt, List.drop_append_of_le_length (by rw [List.length_take]; omega)]; intro h; rcases List.mem_append.1 h with h | h; exact hfr h; exact hnb (List.mem_singleton.1 h).symm⟩, fun h => absurd h (by omega), by omega⟩, ⟨rfl, rfl, rfl, rfl, rfl, trivial⟩, ho2, hE2⟩
    · with_reducible first | (replace hci := deNF hci) | (replace hci := of_decide_eq_true hci) | (replace hci := of_decide_eq_false hci) | (replace hci := deNT hci) | (replace hci := deNN hci) | (replace hci := bnT hci) | (replace hci := bnF hci) | skip
      obtain rfl : i = s.length + 1 := by omega
      have hout := hfin rfl
      subst hout
      refine CW.exit ?_
      refine Fin.thenExit ?_
      refine Fin.thenExit ?_
      refine Fin.blockHit ?_
      refine Fin.next ?_
      refine CW.seq ?_
      refine CW.region ?_
      refine RL.y rfl (y_mov (by conv => lhs; whnf)) ?_
      refine RL.y rfl (y_asg (by conv => lhs; whnf)) ?_
      refine RL.nil ?_
      refine Fin.next ?_
      refine CW.ret ?_
      refine Fin.ret1 rfl (by conv => lhs; whnf) ?_
      exact ⟨_, rfl, ⟨ho2.sv, ho2.lt⟩, hE2⟩
end Go.Proofs.YtebegkegkdmbjaaDoor
