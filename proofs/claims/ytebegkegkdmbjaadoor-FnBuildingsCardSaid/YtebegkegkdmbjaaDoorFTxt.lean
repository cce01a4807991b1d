/-
  Texts of numbers and of buildings.
-/
import Derived.Test.YtebegkegkdmbjaaDoorShelf
import Derived.Test.YtebegkegkdmbjaaDoorRows
import Derived.Test.YtebegkegkdmbjaaDoorFMarkB
import Derived.Test.YtebegkegkdmbjaaDoorFBld3
import Derived.Test.YtebegkegkdmbjaaDoorTxt
import Derived.Test.YtebegkegkdmbjaaDoorStr
import Derived.Test.YtebegkegkdmbjaaDoorAny
import Derived.Test.YtebegkegkdmbjaaDoorPart
import Derived.Lib.AppendIntMem
namespace Go.Proofs.YtebegkegkdmbjaaDoor
open B Go.RowKit

/-- The table that the numerals' text reads. -/
def pw10 : String := (Rows.fnExactBuildingTextRow.laid.map (·.1)).getD 2 ""
def Tb (w : World) : Prop := Lib.TabIs Tryd.prog w pw10 .u64 Lib.pow10Tab
theorem Tb.ext {w w' : World} (h : Tb w) (he : Ext w w') : Tb w' := by
  unfold Tb Lib.TabIs World.var? at h ⊢
  cases hg : Tryd.prog.globalNamed pw10 with
  | none => rw [hg] at h; simp at h
  | some g =>
    rw [hg] at h
    simp only [Option.bind_some] at h ⊢
    cases hb : w.heap[g]? with
    | none => rw [hb] at h; simp at h
    | some o => rw [he.block hb]; rw [hb] at h; exact h
theorem formatInt_any {w : World} {n : Int} (htab : Tb w) (h0 : -9223372036854775808 ≤ n) (h1 : n ≤ 9223372036854775807) : Does Tryd.prog 53 #[.int .i64 n, .int .i64 10] w (fun r w' => r = .string ⟨(Lib.itoa n).toArray⟩ ∧ Ext w w') :=
  ⟨enters_of Tryd.func53 (by kernel_rfl) rfl, (Any.strconv_FormatInt_10 Tryd.laysM173 n h0 h1 w htab).mono (fun e w' ⟨he, k, os, hw⟩ => ⟨_, he, rfl, by subst hw; exact Lib.below_grow _ w (Nat.le_refl _) k os⟩)⟩
theorem sjoin_any {w : World} {v : Value} {xs : List (List UInt8)} (hv : SV w v (strs xs)) (hl : (Lib.join xs [32]).length ≤ 1000000) : Does Tryd.prog 36 #[v, .string ⟨#[32]⟩] w (fun r w' => r = .string ⟨(Lib.join xs [32]).toArray⟩ ∧ Ext w w') := by
  refine ⟨enters_of Tryd.func36 (by kernel_rfl) rfl, ?_⟩
  have hmap : (xs.map (fun l : List UInt8 => (⟨l.toArray⟩ : ByteArray))).map (·.data.toList) = xs := by rw [List.map_map]; exact (List.map_congr_left (fun l _ => by simp)).trans (List.map_id xs)
  rcases hv with ⟨ao, cap, rfl, hn, _⟩ | ⟨b, off, cap, cur, e, fz, rfl, h0, hc, hcap, hg, hcur⟩
  · have hx : xs = [] := by cases xs with | nil => rfl | cons a l => simp [strs] at hn
    subst hx
    exact (Tryd.strings_Join_none ao cap ⟨#[32]⟩ w).mono (fun e w' ⟨he, hw⟩ => ⟨_, he, by simp [Lib.join_nil], by subst hw; exact Ext.refl _⟩)
  · have hlen : (strs xs).length = (xs.map (fun l : List UInt8 => (⟨l.toArray⟩ : ByteArray))).length := by simp [strs]
    rw [hlen] at hc hcur ⊢
    refine (Tryd.strings_Join b off cap (xs.map (fun l : List UInt8 => (⟨l.toArray⟩ : ByteArray))) ⟨#[32]⟩ w (fun j x hx => ?_) (Array.getElem?_eq_some_iff.1 hg).1 ?_ hc (by rw [hmap]; show (Lib.join xs [32]).length ≤ _; omega)).mono (fun e w' ⟨he, hw⟩ => ⟨_, he, by rw [hmap], hw⟩)
    · obtain ⟨hj, hx2⟩ := List.getElem?_eq_some_iff.1 hx
      have h1 := hcur j hj
      rw [strs_at (by simpa using hj)] at h1
      simp only [List.getElem_map] at hx2
      subst hx2
      simp [World.cell?, hg, h1]
    · have : xs.length ≤ (Lib.join xs [32]).length + 1 := join_count xs
      rw [List.length_map]; omega

theorem text_any {w : World} {n : Int} (htab : Tb w) (h0 : -9223372036854775808 ≤ n) (h1 : n ≤ 9223372036854775807) :
    Does Tryd.prog 35 #[.int .i64 n] w (fun r w' => r = .string ⟨(Lib.itoa n).toArray⟩ ∧ Ext w w') := by
  refine enter Tryd.func35 rfl 5 Tryd.ntmps35 rfl (by kernel_rfl) ?_
  refine CW.seq ?_
  refine CW.region ?_
  refine RL.y rfl (y_asg rfl) ?_
  refine RL.nil ?_
  refine Fin.next ?_
  refine CW.seq ?_
  refine CW.region ?_
  refine RL.y rfl (y_mov (v := .int _ _) rfl) ?_
  refine RL.call rfl (formatInt_any htab h0 h1) ?_
  rintro r w2 ⟨rfl, hE2⟩
  refine RL.y rfl (y_asg (v := .string _) rfl) ?_
  refine RL.nil ?_
  refine Fin.next ?_
  refine CW.ret ?_
  refine Fin.ret1 rfl (by conv => lhs; whnf) ?_
  exact ⟨_, rfl, rfl, hE2⟩

theorem dig {n : Nat} (h : n < 10) : ([.int .u8 (48 + (n : Int))] : List Value) = byts [UInt8.ofNat (48 + n)] := by
  simp only [byts, List.map_cons, List.map_nil, UInt8.toNat_ofNat']
  have : (48 + n) % 2 ^ 8 = 48 + n := Nat.mod_eq_of_lt (by omega)
  rw [this]
  rfl
theorem l01Dec_small {w : World} {n : Nat} (h : n < 10) :
    Does Tryd.prog 47 #[.int .i64 (n : Int)] w (fun r w' => r = .string ⟨(Lib.decDigits n).toArray⟩ ∧ Ext w w') := by
  refine enter Tryd.func47 rfl 20 Tryd.ntmps47 rfl (by kernel_rfl) ?_
  refine CW.seq ?_
  refine CW.region ?_
  refine RL.y rfl (y_asg rfl) ?_
  refine RL.nil ?_
  refine Fin.next ?_
  refine CW.seq ?_
  refine CW.seq ?_
  refine CW.region ?_
  refine RL.y rfl (y_mov (v := .int _ _) rfl) ?_
  refine RL.y rfl (y_lt rfl rfl) ?_
  refine RL.nil ?_
  refine Fin.next ?_
  refine CW.condT rfl ((decide_eq_true (by omega))) ?_
  refine CW.seq ?_
  refine CW.region ?_
  refine RL.y rfl (y_mov (v := .int _ _) rfl) ?_
  refine RL.y rfl (y_add rfl rfl (IntWalk.i64_in _ (by omega))) ?_
  refine RL.y rfl (y_conv ⟨_, Tryd.underlying2⟩ Tryd.underlying5 rfl (IntWalk.u8_in _ (by omega))) ?_
  refine RL.lit1 rfl sT31 rfl rfl (fun v w1 ho1 hE1 hb1 => ?_)
  replace ho1 : OV w1 w.heap.size 5 v (byts [UInt8.ofNat (48 + n)]) := by rw [← dig h]; exact ho1
  refine RL.y rfl (y_b2s Tryd.underlying31 Tryd.underlying5 Tryd.underlying9 (eqw ho1.sv) rfl) ?_
  refine RL.y rfl (y_asg (v := .string _) rfl) ?_
  refine RL.nil ?_
  refine Fin.next ?_
  refine CW.ret ?_
  refine Fin.thenRet ?_
  refine Fin.ret1 rfl (by conv => lhs; whnf) ?_
  exact ⟨_, rfl, by rw [Lib.decDigits_one h], hE1⟩

theorem l01Dec_step {w : World} {n : Nat} (h : ¬ n < 10) (hn : n ≤ 9223372036854775807) (ih : ∀ w' : World, Does Tryd.prog 47 #[.int .i64 ((n / 10 : Nat) : Int)] w' (fun r w'' => r = .string ⟨(Lib.decDigits (n / 10)).toArray⟩ ∧ Ext w' w'')) :
    Does Tryd.prog 47 #[.int .i64 (n : Int)] w (fun r w' => r = .string ⟨(Lib.decDigits n).toArray⟩ ∧ Ext w w') := by
  have hq : (n : Int).tdiv 10 = ((n / 10 : Nat) : Int) := by rw [Int.tdiv_eq_ediv_of_nonneg (by omega)]; omega
  have hr : (n : Int).tmod 10 = ((n % 10 : Nat) : Int) := by rw [Int.tmod_eq_emod_of_nonneg (by omega)]; omega
  have hr10 : n % 10 < 10 := Nat.mod_lt _ (by omega)
  have hll := Lib.itoa_length_le ((n / 10 : Nat) : Int) (by omega) (by omega)
  rw [Lib.itoa_nonneg] at hll
  refine enter Tryd.func47 rfl 20 Tryd.ntmps47 rfl (by kernel_rfl) ?_
  refine CW.seq ?_
  refine CW.region ?_
  refine RL.y rfl (y_asg rfl) ?_
  refine RL.nil ?_
  refine Fin.next ?_
  refine CW.seq ?_
  refine CW.seq ?_
  refine CW.region ?_
  refine RL.y rfl (y_mov (v := .int _ _) rfl) ?_
  refine RL.y rfl (y_lt rfl rfl) ?_
  refine RL.nil ?_
  refine Fin.next ?_
  refine CW.condF rfl ((decide_eq_false (by omega))) ?_
  have hEd : Ext w w.drew := Ext.drew w
  refine CW.skip ?_
  refine Fin.next ?_
  refine CW.seq ?_
  refine CW.any (Ext w) [2, 7, 8, 9] mixed rfl (hEd) ?_
  refine AL.y 0 rfl rfl (by kernel_rfl) (by kernel_rfl) (by kernel_rfl) rfl (y_mov (v := .int _ _) rfl) ?_
  refine AL.y 1 rfl rfl (by kernel_rfl) (by kernel_rfl) (by kernel_rfl) rfl (y_quo rfl rfl (by omega) (show IntKind.i64.wrap ((n : Int).tdiv 10) = ((n / 10 : Nat) : Int) by rw [hq, IntWalk.i64_in _ (by omega)])) ?_
  refine AL.y 3 rfl rfl (by kernel_rfl) (by kernel_rfl) (by kernel_rfl) rfl (y_mov (v := .int _ _) rfl) ?_
  refine AL.y 4 rfl rfl (by kernel_rfl) (by kernel_rfl) (by kernel_rfl) rfl (y_rem rfl rfl (by omega) hr) ?_
  refine AL.y 5 rfl rfl (by kernel_rfl) (by kernel_rfl) (by kernel_rfl) rfl (y_add rfl rfl (IntWalk.i64_in _ (by omega))) ?_
  refine AL.y 6 rfl rfl (by kernel_rfl) (by kernel_rfl) (by kernel_rfl) rfl (y_conv ⟨_, Tryd.underlying2⟩ Tryd.underlying5 rfl (IntWalk.u8_in _ (by omega))) ?_
  refine AL.two (i := 2) (j := 7) (by kernel_rfl) rfl rfl rfl rfl ?_ ?_ 
  · intro hr hJ
    refine RL.call rfl (ih w.drew) ?_
    rintro r w1 ⟨rfl, hE1⟩
    refine RL.nil ?_
    refine Fin.al hr hJ (.inr (hEd.trans hE1)) ?_
    refine AL.one (i := 7) (by kernel_rfl) rfl rfl ?_ 
    intro hr hJ
    refine RL.lit1 rfl sT31 rfl rfl (fun v w2 ho2 hE2 hb2 => ?_)
    replace ho2 : OV w2 w1.heap.size 5 v (byts [UInt8.ofNat (48 + n % 10)]) := by rw [← dig hr10]; exact ho2
    refine RL.nil ?_
    refine Fin.al hr hJ (.inr ((hEd.trans hE1).trans hE2)) ?_
    refine AL.one (i := 8) (by kernel_rfl) rfl rfl ?_ 
    intro hr hJ
    refine RL.y rfl (y_b2s Tryd.underlying31 Tryd.underlying5 Tryd.underlying9 (eqw ho2.sv) rfl) ?_
    refine RL.nil ?_
    refine Fin.al hr hJ (.inr ((hEd.trans hE1).trans hE2)) ?_
    refine AL.one (i := 9) (by kernel_rfl) rfl rfl ?_ 
    intro hr hJ
    refine RL.y rfl (y_scat (by simp; omega) rfl rfl) ?_
    refine RL.nil ?_
    refine Fin.al hr hJ (.inr ((hEd.trans hE1).trans hE2)) ?_
    refine AL.y 10 rfl rfl (by kernel_rfl) (by kernel_rfl) (by kernel_rfl) rfl (y_asg (v := .string _) rfl) ?_
    refine AL.nil (by kernel_rfl) ?_
    refine Fin.next ?_
    refine CW.ret ?_
    refine Fin.ret1 rfl (by conv => lhs; whnf) ?_
    exact ⟨_, rfl, by rw [dec_step h], ((hEd.trans hE1).trans hE2)⟩
  · intro hr hJ
    refine RL.lit1 rfl sT31 rfl rfl (fun v w1 ho1 hE1 hb1 => ?_)
    replace ho1 : OV w1 w.drew.heap.size 5 v (byts [UInt8.ofNat (48 + n % 10)]) := by rw [← dig hr10]; exact ho1
    refine RL.nil ?_
    refine Fin.al hr hJ (.inr (hEd.trans hE1)) ?_
    refine AL.two (i := 2) (j := 8) (by kernel_rfl) rfl rfl rfl rfl ?_ ?_ 
    · intro hr hJ
      refine RL.call rfl (ih w1) ?_
      rintro r w2 ⟨rfl, hE2⟩
      refine RL.nil ?_
      refine Fin.al hr hJ (.inr ((hEd.trans hE1).trans hE2)) ?_
      refine AL.one (i := 8) (by kernel_rfl) rfl rfl ?_ 
      intro hr hJ
      refine RL.y rfl (y_b2s Tryd.underlying31 Tryd.underlying5 Tryd.underlying9 (eqw (ho1.ext hE2).sv) rfl) ?_
      refine RL.nil ?_
      refine Fin.al hr hJ (.inr ((hEd.trans hE1).trans hE2)) ?_
      refine AL.one (i := 9) (by kernel_rfl) rfl rfl ?_ 
      intro hr hJ
      refine RL.y rfl (y_scat (by simp; omega) rfl rfl) ?_
      refine RL.nil ?_
      refine Fin.al hr hJ (.inr ((hEd.trans hE1).trans hE2)) ?_
      refine AL.y 10 rfl rfl (by kernel_rfl) (by kernel_rfl) (by kernel_rfl) rfl (y_asg (v := .string _) rfl) ?_
      refine AL.nil (by kernel_rfl) ?_
      refine Fin.next ?_
      refine CW.ret ?_
      refine Fin.ret1 rfl (by conv => lhs; whnf) ?_
      exact ⟨_, rfl, by rw [dec_step h], ((hEd.trans hE1).trans hE2)⟩
    · intro hr hJ
      refine RL.y rfl (y_b2s Tryd.underlying31 Tryd.underlying5 Tryd.underlying9 (eqw ho1.sv) rfl) ?_
      refine RL.nil ?_
      refine Fin.al hr hJ (.inr (hEd.trans hE1)) ?_
      refine AL.one (i := 2) (by kernel_rfl) rfl rfl ?_ 
      intro hr hJ
      refine RL.call rfl (ih w1) ?_
      rintro r w2 ⟨rfl, hE2⟩
      refine RL.nil ?_
      refine Fin.al hr hJ (.inr ((hEd.trans hE1).trans hE2)) ?_
      refine AL.one (i := 9) (by kernel_rfl) rfl rfl ?_ 
      intro hr hJ
      refine RL.y rfl (y_scat (by simp; omega) rfl rfl) ?_
      refine RL.nil ?_
      refine Fin.al hr hJ (.inr ((hEd.trans hE1).trans hE2)) ?_
      refine AL.y 10 rfl rfl (by kernel_rfl) (by kernel_rfl) (by kernel_rfl) rfl (y_asg (v := .string _) rfl) ?_
      refine AL.nil (by kernel_rfl) ?_
      refine Fin.next ?_
      refine CW.ret ?_
      refine Fin.ret1 rfl (by conv => lhs; whnf) ?_
      exact ⟨_, rfl, by rw [dec_step h], ((hEd.trans hE1).trans hE2)⟩

theorem l01Dec_any : ∀ (n : Nat) (w : World), n ≤ 9223372036854775807 → Does Tryd.prog 47 #[.int .i64 (n : Int)] w (fun r w'' => r = .string ⟨(Lib.decDigits n).toArray⟩ ∧ Ext w w'') := fun n => by
  induction n using Nat.strongRecOn with
  | ind n ih =>
    intro w hn
    by_cases h : n < 10
    · exact l01Dec_small h
    · exact l01Dec_step h hn (fun w' => ih (n / 10) (by omega) w' (by omega))

theorem l09Text_any {w : World} {b : Value} {ps : List Int} {ds : List Bool} (hb : RdB w b ps ds) (hl : bld ps ds) :
    Does Tryd.prog 23 #[b] w (fun r w' => r = .string ⟨(btx ps ds ps.length).toArray⟩ ∧ Ext w w') := by
  obtain ⟨vp, vd, rfl, hp, hd⟩ := hb
  have hsm := bld_small hl
  have hpl := hl.1.1
  have hdl := hl.1.2.1
  refine enter Tryd.func23 rfl 33 Tryd.ntmps23 rfl (by kernel_rfl) ?_
  refine CW.seq ?_
  refine CW.region ?_
  refine RL.box (cs := [vp, vd]) rfl rfl rfl (fun w1 hV hE1 => ?_)
  refine RL.y rfl (y_asg rfl) ?_
  refine RL.nil ?_
  refine Fin.next ?_
  refine CW.seq ?_
  refine CW.region ?_
  refine RL.y rfl (y_asg rfl) ?_
  refine RL.nil ?_
  refine Fin.next ?_
  refine CW.seq ?_
  refine CW.seq ?_
  refine CW.region ?_
  refine RL.y rfl (y_asg rfl) ?_
  refine RL.nil ?_
  refine Fin.next ?_
  refine CW.block ?_
  refine CW.loop (fun m E w' => ∃ k : Nat, m = ps.length - k ∧ (1 ≤ k ∧ k ≤ ps.length) ∧ agrees E [(1, .pointer (some ⟨w.heap.size, 0, none⟩)), (3, .string ⟨(btx ps ds k).toArray⟩), (4, .int .i64 (k : Int))] ∧ Ext w1 w') _ (⟨1, rfl, ⟨Nat.le_refl _, by omega⟩, ⟨rfl, by rw [btx_one]; rfl, rfl, trivial⟩, Ext.refl _⟩) ?_
  · rintro m E w2 ⟨k, rfl, ⟨hk1, hk2⟩, hag, hE2⟩
    refine CW.re _ hag rfl ?_
    refine CW.seq ?_
    refine CW.seq ?_
    refine CW.region ?_
    refine RL.y rfl (y_mov (v := .int _ _) rfl) ?_
    refine RL.y rfl (y_fa fa25_0 rfl rfl) ?_
    refine RL.y rfl (y_loadv sc22 (eqw (hV.ext hE2)) rfl rfl) ?_
    refine RL.y rfl (y_len sT22 hp (ints_len _) rfl) ?_
    refine RL.y rfl (y_lt rfl rfl) ?_
    refine RL.nil ?_
    refine Fin.next ?_
    refine CW.cond rfl rfl (fun hck => ?_) (fun hck => ?_)
    · with_reducible first | (replace hck := deNF hck) | (replace hck := of_decide_eq_true hck) | (replace hck := of_decide_eq_false hck) | (replace hck := deNT hck) | (replace hck := deNN hck) | (replace hck := bnT hck) | (replace hck := bnF hck) | skip
      have hlt : k < ps.length := by omega
      have hbl := btx_len (ds := ds) hsm k hk2
      have hpk := bld_par hl hlt
      have hpk1 := hpk.2.2 hk1
      have hwl := word_len (d := isD ds k) (hsm k hlt)
      have hg : par ps k = ps[k] := getD_lt hlt
      have hgd : isD ds k = ds[k] := getD_lt (by omega)
      have hE12 := hE1.trans hE2
      have hwe : word (par ps k) (isD ds k) = Lib.decDigits ps[k].toNat ++ [if ds[k] = true then 100 else 103] := by unfold word; rw [hg, hgd, show ps[k] = ((ps[k].toNat : Nat) : Int) from by omega, Lib.itoa_nonneg]; rfl
      rw [hwe] at hwl
      rw [List.length_append] at hwl
      refine CW.skip ?_
      refine Fin.next ?_
      refine CW.seq ?_
      refine CW.block ?_
      refine CW.cut (fun E w' => ∃ l : List UInt8, agrees E [(1, .pointer (some ⟨w.heap.size, 0, none⟩)), (3, .string ⟨l.toArray⟩), (4, .int .i64 (k : Int))] ∧ (btx ps ds (k + 1) = l ++ word (par ps k) (isD ds k) ∧ l.length ≤ 23 * k + 1) ∧ w2 = w') ?_ ?_
      · refine CW.seq ?_
        refine CW.region ?_
        refine RL.y rfl (y_mov (v := .int _ _) rfl) ?_
        refine RL.y rfl (y_gt rfl rfl) ?_
        refine RL.nil ?_
        refine Fin.next ?_
        refine CW.cond rfl rfl (fun h1 => ?_) (fun h1 => ?_)
        · with_reducible first | (replace h1 := deNF h1) | (replace h1 := of_decide_eq_true h1) | (replace h1 := of_decide_eq_false h1) | (replace h1 := deNT h1) | (replace h1 := deNN h1) | (replace h1 := bnT h1) | (replace h1 := bnF h1) | skip
          refine CW.region ?_
          refine RL.y rfl (y_mov (v := .string _) rfl) ?_
          refine RL.y rfl (y_scat (by simp; omega) rfl rfl) ?_
          refine RL.y rfl (y_asg (v := .string _) rfl) ?_
          refine RL.nil ?_
          refine Fin.le ?_
          exact ⟨btx ps ds k ++ [32], ⟨rfl, rfl, rfl, trivial⟩, ⟨btx_more (by omega), by simp; omega⟩, rfl⟩
        · with_reducible first | (replace h1 := deNF h1) | (replace h1 := of_decide_eq_true h1) | (replace h1 := of_decide_eq_false h1) | (replace h1 := deNT h1) | (replace h1 := deNN h1) | (replace h1 := bnT h1) | (replace h1 := bnF h1) | skip
          obtain rfl : k = 1 := by omega
          refine CW.skip ?_
          refine Fin.le ?_
          exact ⟨btx ps ds 1, ⟨rfl, rfl, rfl, trivial⟩, ⟨btx_two, by omega⟩, rfl⟩
      · rintro E w3 ⟨l, hag, ⟨hbe, hll⟩, rfl⟩
        refine CW.re _ hag rfl ?_
        rw [hwe] at hbe
        refine CW.seq ?_
        refine CW.region ?_
        refine RL.y rfl (y_asg rfl) ?_
        refine RL.nil ?_
        refine Fin.next ?_
        refine CW.cut (fun E w' => agrees E [(1, .pointer (some ⟨w.heap.size, 0, none⟩)), (3, .string ⟨l.toArray⟩), (4, .int .i64 (k : Int)), (5, .string ⟨([if ds[k] = true then 100 else 103] : List UInt8).toArray⟩)] ∧ w2 = w') ?_ ?_
        · refine CW.seq ?_
          refine CW.region ?_
          refine RL.y rfl (y_fa fa25_1 rfl rfl) ?_
          refine RL.y rfl (y_loadv sc23 (eqw (hV.ext hE2)) rfl rfl) ?_
          refine RL.y rfl (y_mov (v := .int _ _) rfl) ?_
          refine RL.y rfl (y_ixa sT23 (eqw ((hd.ext hE12))) (k := k) (by rw [bools_len]; omega) rfl rfl) ?_
          refine RL.y rfl (y_load sc4 (eqw ((hd.ext hE12))) ((bools_at (by omega))) rfl) ?_
          refine RL.nil ?_
          refine Fin.next ?_
          refine CW.cond rfl rfl (fun h2 => ?_) (fun h2 => ?_)
          · with_reducible first | (replace h2 := deNF h2) | (replace h2 := of_decide_eq_true h2) | (replace h2 := of_decide_eq_false h2) | (replace h2 := deNT h2) | (replace h2 := deNN h2) | (replace h2 := bnT h2) | (replace h2 := bnF h2) | skip
            refine CW.region ?_
            refine RL.y rfl (y_asg rfl) ?_
            refine RL.nil ?_
            refine Fin.le ?_
            exact ⟨⟨rfl, rfl, rfl, by rw [if_pos h2]; rfl, trivial⟩, rfl⟩
          · with_reducible first | (replace h2 := deNF h2) | (replace h2 := of_decide_eq_true h2) | (replace h2 := of_decide_eq_false h2) | (replace h2 := deNT h2) | (replace h2 := deNN h2) | (replace h2 := bnT h2) | (replace h2 := bnF h2) | skip
            refine CW.skip ?_
            refine Fin.le ?_
            exact ⟨⟨rfl, rfl, rfl, by rw [if_neg (by rw [h2]; exact Bool.false_ne_true)]; rfl, trivial⟩, rfl⟩
        · rintro E w3 ⟨hag, rfl⟩
          refine CW.re _ hag rfl ?_
          refine CW.region ?_
          refine RL.y rfl (y_mov (v := .string _) rfl) ?_
          refine RL.y rfl (y_fa fa25_0 rfl rfl) ?_
          refine RL.y rfl (y_loadv sc22 (eqw (hV.ext hE2)) rfl rfl) ?_
          refine RL.y rfl (y_mov (v := .int _ _) rfl) ?_
          refine RL.y rfl (y_ixa sT22 (eqw ((hp.ext hE12))) (k := k) (ints_lt hlt) rfl rfl) ?_
          refine RL.y rfl (y_load sc2 (eqw ((hp.ext hE12))) (ints_at hlt) rfl) ?_
          rw [show ps[k] = ((ps[k].toNat : Nat) : Int) from by omega]
          refine RL.call rfl (l01Dec_any ps[k].toNat w2 (by omega)) ?_
          rintro r w4 ⟨rfl, hE4⟩
          refine RL.y rfl (y_scat (by omega) rfl rfl) ?_
          refine RL.y rfl (y_mov (v := .string _) rfl) ?_
          refine RL.y rfl (y_scat (by rw [List.length_append]; simp; omega) rfl rfl) ?_
          refine RL.y rfl (y_asg (v := .string _) rfl) ?_
          refine RL.nil ?_
          refine Fin.blockNormal ?_
          refine Fin.next ?_
          refine CW.region ?_
          refine RL.y rfl (y_mov (v := .int _ _) rfl) ?_
          refine RL.y rfl (y_add rfl rfl (IntWalk.i64_in _ (by omega))) ?_
          refine RL.y rfl (y_asg (v := .int _ _) rfl) ?_
          refine RL.nil ?_
          refine Fin.le ?_
          exact ⟨ps.length - (k + 1), by omega, k + 1, rfl, ⟨by omega, hlt⟩, ⟨rfl, by rw [hbe, List.append_assoc]; rfl, rfl, trivial⟩, hE2.trans hE4⟩
    · with_reducible first | (replace hck := deNF hck) | (replace hck := of_decide_eq_true hck) | (replace hck := of_decide_eq_false hck) | (replace hck := deNT hck) | (replace hck := deNN hck) | (replace hck := bnT hck) | (replace hck := bnF hck) | skip
      obtain rfl : k = ps.length := by omega
      refine CW.exit ?_
      refine Fin.thenExit ?_
      refine Fin.thenExit ?_
      refine Fin.blockHit ?_
      refine Fin.next ?_
      refine CW.seq ?_
      refine CW.region ?_
      refine RL.y rfl (y_mov (v := .string _) rfl) ?_
      refine RL.y rfl (y_asg (v := .string _) rfl) ?_
      refine RL.nil ?_
      refine Fin.next ?_
      refine CW.ret ?_
      refine Fin.ret1 rfl (by conv => lhs; whnf) ?_
      exact ⟨_, rfl, rfl, hE1.trans hE2⟩

theorem specBuildingText_any {w : World} {b : Value} {ps : List Int} {ds : List Bool} (hb : RdB w b ps ds) :
    Does Tryd.prog 14 #[b] w (fun r w' => r = .tuple #[.string ⟨(btV ps ds).toArray⟩, .int .i64 (btC ps ds)] ∧ Ext w w') := by
  have hb0 := hb
  obtain ⟨vp, vd, rfl, hp, hd⟩ := hb
  refine enter Tryd.func14 rfl 9 Tryd.ntmps14 rfl (by kernel_rfl) ?_
  refine CW.seq ?_
  refine CW.region ?_
  refine RL.box (cs := [vp, vd]) rfl rfl rfl (fun w1 hV hE1 => ?_)
  refine RL.y rfl (y_asg rfl) ?_
  refine RL.y rfl (y_asg rfl) ?_
  refine RL.nil ?_
  refine Fin.next ?_
  refine CW.seq ?_
  refine CW.seq ?_
  refine CW.region ?_
  refine RL.y rfl (y_loads ag25 rfl (eqw (hV)) rfl) ?_
  refine RL.call rfl (specIsBuilding_any (hb0.ext hE1)) ?_
  rintro r w2 ⟨rfl, hE2⟩
  have hE02 := hE1.trans hE2
  refine RL.y rfl (y_not rfl) ?_
  refine RL.nil ?_
  refine Fin.next ?_
  refine CW.cond rfl rfl (fun h1 => ?_) (fun h1 => ?_)
  · with_reducible first | (replace h1 := deNF h1) | (replace h1 := of_decide_eq_true h1) | (replace h1 := of_decide_eq_false h1) | (replace h1 := deNT h1) | (replace h1 := deNN h1) | (replace h1 := bnT h1) | (replace h1 := bnF h1) | skip
    refine CW.seq ?_
    refine CW.region ?_
    refine RL.y rfl (y_asg rfl) ?_
    refine RL.y rfl (y_asg rfl) ?_
    refine RL.nil ?_
    refine Fin.next ?_
    refine CW.ret ?_
    refine Fin.thenRet ?_
    refine Fin.ret2 rfl (by conv => lhs; whnf) (by conv => lhs; whnf) ?_
    exact ⟨_, rfl, by unfold btV btC; rw [if_neg h1, if_neg h1], hE02⟩
  · with_reducible first | (replace h1 := deNF h1) | (replace h1 := of_decide_eq_true h1) | (replace h1 := of_decide_eq_false h1) | (replace h1 := deNT h1) | (replace h1 := deNN h1) | (replace h1 := bnT h1) | (replace h1 := bnF h1) | skip
    refine CW.skip ?_
    refine Fin.next ?_
    refine CW.seq ?_
    refine CW.region ?_
    refine RL.y rfl (y_loads ag25 rfl (eqw (hV.ext hE2)) rfl) ?_
    refine RL.call rfl (l09Text_any (hb0.ext hE02) h1) ?_
    rintro r w3 ⟨rfl, hE3⟩
    refine RL.y rfl (y_asg (v := .string _) rfl) ?_
    refine RL.y rfl (y_asg rfl) ?_
    refine RL.nil ?_
    refine Fin.next ?_
    refine CW.ret ?_
    refine Fin.ret2 rfl (by conv => lhs; whnf) (by conv => lhs; whnf) ?_
    exact ⟨_, rfl, by unfold btV btC; rw [if_pos h1, if_pos h1], hE02.trans hE3⟩

theorem implBuildingText_any {w : World} {b : Value} {ps : List Int} {ds : List Bool} (htab : Tb w) (hb : RdB w b ps ds) :
    Does Tryd.prog 13 #[b] w (fun r w' => r = .tuple #[.string ⟨(btV ps ds).toArray⟩, .int .i64 (btC ps ds)] ∧ Ext w w') := by
  have hb0 := hb
  obtain ⟨vp, vd, rfl, hp, hd⟩ := hb
  refine enter Tryd.func13 rfl 39 Tryd.ntmps13 rfl (by kernel_rfl) ?_
  refine CW.seq ?_
  refine CW.region ?_
  refine RL.box (cs := [vp, vd]) rfl rfl rfl (fun w1 hV hE1 => ?_)
  refine RL.y rfl (y_asg rfl) ?_
  refine RL.y rfl (y_asg rfl) ?_
  refine RL.nil ?_
  refine Fin.next ?_
  refine CW.seq ?_
  refine CW.seq ?_
  refine CW.region ?_
  refine RL.y rfl (y_loads ag25 rfl (eqw (hV)) rfl) ?_
  refine RL.call rfl (nodeCode_any (ks := []) (hb0.ext hE1) (SV.nil _)) ?_
  rintro r w2 ⟨rfl, hE2⟩
  rw [ncC_nil]
  have hE02 := hE1.trans hE2
  refine RL.y rfl (y_asg (v := .int _ _) rfl) ?_
  refine RL.nil ?_
  refine Fin.next ?_
  refine CW.seq ?_
  refine CW.region ?_
  refine RL.y rfl (y_mov (v := .int _ _) rfl) ?_
  refine RL.y rfl (y_ne rfl rfl) ?_
  refine RL.nil ?_
  refine Fin.next ?_
  refine CW.cond rfl rfl (fun h1 => ?_) (fun h1 => ?_)
  · with_reducible first | (replace h1 := deNF h1) | (replace h1 := of_decide_eq_true h1) | (replace h1 := of_decide_eq_false h1) | (replace h1 := deNT h1) | (replace h1 := deNN h1) | (replace h1 := bnT h1) | (replace h1 := bnF h1) | skip
    refine CW.seq ?_
    refine CW.region ?_
    refine RL.y rfl (y_mov (v := .int _ _) rfl) ?_
    refine RL.y rfl (y_asg rfl) ?_
    refine RL.y rfl (y_asg (v := .int _ _) rfl) ?_
    refine RL.nil ?_
    refine Fin.next ?_
    refine CW.ret ?_
    refine Fin.thenRet ?_
    refine Fin.ret2 rfl (by conv => lhs; whnf) (by conv => lhs; whnf) ?_
    exact ⟨_, rfl, by unfold btV; rw [if_neg (fun h => h1 (btC_zero.2 h))], hE02⟩
  · with_reducible first | (replace h1 := deNF h1) | (replace h1 := of_decide_eq_true h1) | (replace h1 := of_decide_eq_false h1) | (replace h1 := deNT h1) | (replace h1 := deNN h1) | (replace h1 := bnT h1) | (replace h1 := bnF h1) | skip
    have hl := btC_zero.1 h1
    have hsm := bld_small hl
    have hpl := hl.1.1
    have hdl := hl.1.2.1
    refine CW.skip ?_
    refine Fin.next ?_
    refine CW.seq ?_
    refine CW.region ?_
    refine RL.lit0 rfl sT42 (fun vo w3 ho3 hE3 hb3 => ?_)
    refine RL.y rfl (y_asg (by conv => lhs; whnf)) ?_
    refine RL.nil ?_
    refine Fin.next ?_
    refine CW.seq ?_
    refine CW.seq ?_
    refine CW.region ?_
    refine RL.y rfl (y_fa fa25_0 rfl rfl) ?_
    refine RL.y rfl (y_loadv sc22 (eqw ((hV.ext hE2).ext hE3)) rfl rfl) ?_
    refine RL.y rfl (y_len sT22 hp (ints_len _) rfl) ?_
    refine RL.y rfl (y_mov rfl) ?_
    refine RL.nil ?_
    refine Fin.next ?_
    refine CW.block ?_
    refine CW.loop (fun m E w' => ∃ (k : Nat) (vo : Value), m = ps.length - k ∧ k ≤ ps.length ∧ agrees E [(1, .pointer (some ⟨w.heap.size, 0, none⟩)), (5, vo), (16, vp), (17, .int .i64 ps.length), (18, .int .i64 (k : Int))] ∧ OV w' w2.heap.size 9 vo (strs (aws ps ds k)) ∧ Ext w2 w') _ (⟨0, vo, rfl, Nat.zero_le _, ⟨rfl, rfl, rfl, rfl, rfl, trivial⟩, ho3, hE3⟩) ?_
    · rintro m E w4 ⟨k, vo, rfl, hk, hag, ho4, hE4⟩
      refine CW.re _ hag rfl ?_
      have hE04 := hE02.trans hE4
      refine CW.seq ?_
      refine CW.region ?_
      refine RL.y rfl (y_lt rfl rfl) ?_
      refine RL.nil ?_
      refine Fin.next ?_
      refine CW.seq ?_
      refine CW.cond rfl rfl (fun hck => ?_) (fun hck => ?_)
      · with_reducible first | (replace hck := deNF hck) | (replace hck := of_decide_eq_true hck) | (replace hck := of_decide_eq_false hck) | (replace hck := deNT hck) | (replace hck := deNN hck) | (replace hck := bnT hck) | (replace hck := bnF hck) | skip
        have hlt : k < ps.length := by omega
        have hpk := bld_par hl hlt
        have hwl := word_len (d := isD ds k) (hsm k hlt)
        have hg : par ps k = ps[k] := getD_lt hlt
        have hgd : isD ds k = ds[k] := getD_lt (by omega)
        have hal := aws_len ps ds k
        refine CW.skip ?_
        refine Fin.next ?_
        refine CW.seq ?_
        refine CW.block ?_
        refine CW.seq ?_
        refine CW.region ?_
        refine RL.y rfl (y_mov (v := .int _ _) rfl) ?_
        refine RL.y rfl (y_ixa sT22 (eqw ((hp.ext hE04))) (k := k) (ints_lt hlt) rfl rfl) ?_
        refine RL.y rfl (y_load sc2 (eqw ((hp.ext hE04))) (ints_at hlt) rfl) ?_
        refine RL.y rfl (y_asg (v := .int _ _) rfl) ?_
        refine RL.y rfl (y_asg (v := .int _ _) rfl) ?_
        refine RL.nil ?_
        refine Fin.next ?_
        refine CW.seq ?_
        refine CW.region ?_
        refine RL.y rfl (y_asg rfl) ?_
        refine RL.nil ?_
        refine Fin.next ?_
        refine CW.cut (fun E w' => agrees E [(1, .pointer (some ⟨w.heap.size, 0, none⟩)), (5, vo), (16, vp), (17, .int .i64 ps.length), (18, .int .i64 (k : Int)), (7, .int .i64 ps[k]), (8, .string ⟨([if ds[k] = true then 100 else 103] : List UInt8).toArray⟩)] ∧ w4 = w') ?_ ?_
        · refine CW.seq ?_
          refine CW.region ?_
          refine RL.y rfl (y_fa fa25_1 rfl rfl) ?_
          refine RL.y rfl (y_loadv sc23 (eqw ((hV.ext hE2).ext hE4)) rfl rfl) ?_
          refine RL.y rfl (y_mov (v := .int _ _) rfl) ?_
          refine RL.y rfl (y_ixa sT23 (eqw ((hd.ext hE04))) (k := k) (by rw [bools_len]; omega) rfl rfl) ?_
          refine RL.y rfl (y_load sc4 (eqw ((hd.ext hE04))) ((bools_at (by omega))) rfl) ?_
          refine RL.nil ?_
          refine Fin.next ?_
          refine CW.cond rfl rfl (fun h2 => ?_) (fun h2 => ?_)
          · with_reducible first | (replace h2 := deNF h2) | (replace h2 := of_decide_eq_true h2) | (replace h2 := of_decide_eq_false h2) | (replace h2 := deNT h2) | (replace h2 := deNN h2) | (replace h2 := bnT h2) | (replace h2 := bnF h2) | skip
            refine CW.region ?_
            refine RL.y rfl (y_asg rfl) ?_
            refine RL.nil ?_
            refine Fin.le ?_
            exact ⟨⟨rfl, rfl, rfl, rfl, rfl, rfl, by rw [if_pos h2]; rfl, trivial⟩, rfl⟩
          · with_reducible first | (replace h2 := deNF h2) | (replace h2 := of_decide_eq_true h2) | (replace h2 := of_decide_eq_false h2) | (replace h2 := deNT h2) | (replace h2 := deNN h2) | (replace h2 := bnT h2) | (replace h2 := bnF h2) | skip
            refine CW.skip ?_
            refine Fin.le ?_
            exact ⟨⟨rfl, rfl, rfl, rfl, rfl, rfl, by rw [if_neg (by rw [h2]; exact Bool.false_ne_true)]; rfl, trivial⟩, rfl⟩
        · rintro E w5 ⟨hag, rfl⟩
          refine CW.re _ hag rfl ?_
          refine CW.region ?_
          refine RL.y rfl (y_mov (by conv => lhs; whnf)) ?_
          refine RL.y rfl (y_mov (v := .int _ _) rfl) ?_
          refine RL.call rfl (text_any (htab.ext hE04) (by omega) (by omega)) ?_
          rintro r w5 ⟨rfl, hE5⟩
          have hil : (Lib.itoa ps[k]).length + 1 ≤ 22 := by rw [hg] at hwl; unfold word at hwl; rw [List.length_append] at hwl; simpa using hwl
          refine RL.y rfl (y_mov (v := .string _) rfl) ?_
          refine RL.y rfl (y_scat (by simp; omega) rfl rfl) ?_
          refine RL.app1 rfl rfl sT42 (by omega) (ho4.ext hE5) (by rw [strs_len]; omega) (by have := (hE4.trans hE5).size; omega) rfl (rfl) (fun _ => rfl) (fun u v6 w6 ho6 hg6 hn6 => ?_)
          replace ho6 : OV w6 w2.heap.size 9 v6 (strs (aws ps ds (k + 1))) := by rw [show aws ps ds (k + 1) = aws ps ds k ++ [word (par ps k) (isD ds k)] from rfl, ← strs_app]; unfold word; rw [hg, hgd]; exact ho6
          refine RL.y rfl (y_asg (by conv => lhs; whnf)) ?_
          refine RL.nil ?_
          refine Fin.blockNormal ?_
          refine Fin.next ?_
          refine CW.region ?_
          refine RL.y rfl (y_add rfl rfl (IntWalk.i64_in _ (by omega))) ?_
          refine RL.y rfl (y_mov (v := .int _ _) rfl) ?_
          refine RL.nil ?_
          refine Fin.le ?_
          exact ⟨ps.length - (k + 1), by omega, k + 1, v6, rfl, hlt, ⟨rfl, rfl, rfl, rfl, rfl, trivial⟩, ho6, (hE4.trans hE5).grown hg6 (fun b hb => (ho4.lt b hb).1)⟩
      · with_reducible first | (replace hck := deNF hck) | (replace hck := of_decide_eq_true hck) | (replace hck := of_decide_eq_false hck) | (replace hck := deNT hck) | (replace hck := deNN hck) | (replace hck := bnT hck) | (replace hck := bnF hck) | skip
        obtain rfl : k = ps.length := by omega
        have hal := aws_len ps ds ps.length
        refine CW.exit ?_
        refine Fin.thenExit ?_
        refine Fin.thenExit ?_
        refine Fin.blockHit ?_
        refine Fin.next ?_
        refine CW.seq ?_
        refine CW.region ?_
        refine RL.y rfl (y_mov (by conv => lhs; whnf)) ?_
        refine RL.y rfl (y_cutL sT42 (eqw (ho4.sv)) (l := 1) (by rw [strs_len]; omega) rfl rfl ) ?_
        have hcut := ho4.sv.cut (l := 1) (h := (strs (aws ps ds ps.length)).length) (by rw [strs_len]; omega) (Nat.le_refl _)
        rw [List.take_length, strs_drop, aws_drop] at hcut
        have hbl := btx_len (ds := ds) hsm ps.length (Nat.le_refl _)
        refine RL.call rfl (sjoin_any hcut (by unfold btx at hbl; omega)) ?_
        rintro r w5 ⟨rfl, hE5⟩
        refine RL.y rfl (y_asg (v := .string _) rfl) ?_
        refine RL.y rfl (y_asg rfl) ?_
        refine RL.nil ?_
        refine Fin.next ?_
        refine CW.ret ?_
        refine Fin.ret2 rfl (by conv => lhs; whnf) (by conv => lhs; whnf) ?_
        exact ⟨_, rfl, by unfold btV; rw [if_pos hl, h1]; rfl, hE04.trans hE5⟩
end Go.Proofs.YtebegkegkdmbjaaDoor
