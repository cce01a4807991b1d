/-
  Plans: what the laws on access, rights and plans say, in plain terms.
-/
import Derived.Test.YtkkeipogkjlneaaPln2
import Derived.Test.YtkkeipogkjlneaaBld2
namespace Go.Proofs.Ytkkeipogkjlneaa
namespace B
open Go.RowKit

theorem plC_zero {ps : List Int} {ds : List Bool} {rs : List (List Int)} : plC ps ds rs = 0 ↔ pln ps ds rs := by
  unfold plC; split
  · rename_i h; exact ⟨fun _ => h, fun _ => rfl⟩
  · rename_i h; exact ⟨fun e => by omega, fun e => absurd e h⟩
theorem mem_drs {ps : List Int} {ds : List Bool} {d : Int} (hb : bld ps ds) : d ∈ drs ps ds ↔ isDoor ps ds d := by
  unfold drs isDoor
  rw [mem_doorsU]
  constructor
  · rintro ⟨h1, h2, _⟩; exact ⟨⟨h1.1, by omega⟩, h2⟩
  · rintro ⟨h1, h2⟩
    exact ⟨⟨h1.1, by omega⟩, h2, under_root hb (d + 1).toNat d h1.1 (by omega) (by omega)⟩
theorem mem_dfL {ps : List Int} {ds : List Bool} {ns : List Int} {d : Int} (hb : bld ps ds) : d ∈ dfL ps ds ns ↔ isDoor ps ds d ∧ may ps ns d := by
  unfold dfL
  rw [List.mem_filter, mem_drs hb, decide_eq_true_eq]
theorem mem_kfL {ps : List Int} {rs : List (List Int)} {d k : Int} : k ∈ kfL ps rs d ↔ isKey rs k ∧ may ps (row rs k) d := by
  unfold kfL
  rw [mem_idxs]
  constructor
  · rintro ⟨i, h1, h2, rfl⟩
    refine ⟨⟨by omega, by omega⟩, ?_⟩
    rw [row_nat]
    exact of_decide_eq_true h2
  · rintro ⟨⟨h0, h1⟩, h2⟩
    refine ⟨k.toNat, by omega, ?_, by omega⟩
    unfold kfP
    exact decide_eq_true (by unfold row at h2; exact h2)
theorem acc_facts {ps : List Int} {ds : List Bool} {rs : List (List Int)} {k d : Int} (h : pcC ps ds rs k d = 0) : pkC ps ds rs k = 0 ∧ pcC ps ds rs 0 d = 0 ∧ (d ∈ dfV ps ds rs k ↔ meV ps ds rs k d) ∧ (k ∈ kfV ps ds rs d ↔ meV ps ds rs k d) := by
  obtain ⟨hp, hk, hd⟩ := pcC_zero.1 h
  have h1 : pkC ps ds rs k = 0 := pkC_zero.2 ⟨hp, hk⟩
  have h2 : pcC ps ds rs 0 d = 0 := pcC_zero.2 ⟨hp, isk0 hp.2.1.1, hd⟩
  refine ⟨h1, h2, ?_, ?_⟩
  · unfold dfV meV
    rw [if_pos h1, mem_dfL hp.1]
    exact ⟨fun x => ⟨h, x.2⟩, fun x => ⟨hd, x.2⟩⟩
  · unfold kfV meV
    rw [if_pos h2, mem_kfL]
    exact ⟨fun x => ⟨h, x.2⟩, fun x => ⟨hk, x.2⟩⟩

/-- Strictly increasing lists: those that a filter leaves. -/
theorem rises_of {ns : List Int} {n : Int} (h1 : ∀ x ∈ ns, 0 ≤ x ∧ x < n) (h2 : ns.Pairwise (· < ·)) : rises ns n := by
  intro i hi
  have hx := h1 _ (List.getElem_mem hi)
  rw [getD_lt hi]
  refine ⟨hx.1, hx.2, fun h0 => ?_⟩
  have := List.pairwise_iff_getElem.1 h2 (i - 1) i (by omega) hi (by omega)
  rw [getD_lt (by omega : i - 1 < ns.length)]
  exact this
theorem rises_pair {ns : List Int} {n : Int} (h : rises ns n) : ns.Pairwise (· < ·) := by
  rw [List.pairwise_iff_getElem]
  intro i j hi hj hij
  have := rises_mono h (j - i) i (by omega) (by omega)
  rw [show i + (j - i) = j from by omega, getD_lt hi, getD_lt hj] at this
  exact this
theorem rises_filter {ns : List Int} {n : Int} {p : Int → Bool} (h : rises ns n) : rises (ns.filter p) n :=
  rises_of (fun x hx => rises_mem h x (List.mem_filter.1 hx).1) ((rises_pair h).filter _)
theorem idxs_pair (p : Nat → Bool) (k : Nat) : (idxs p k).Pairwise (· < ·) := by
  unfold idxs
  rw [List.pairwise_map]
  refine List.Pairwise.imp ?_ ((List.pairwise_lt_range).filter _)
  intro a b h; omega

/-- Shortened rights. -/
theorem sh_up {ps : List Int} {ns : List Int} {n : Int} (ht : tree ps) (hn : n ≤ ps.length) (hr : rises ns n) : ∀ (f : Nat) (x : Int), x < f → x ∈ ns → ∃ y ∈ shL ps ns, under ps x y
  | 0, x, hf, hx => by have := rises_mem hr x hx; omega
  | f + 1, x, hf, hx => by
    have hxr := rises_mem hr x hx
    by_cases h : shP ps ns x
    · obtain ⟨y, hy, hne, hu⟩ := h
      have hle := under_le ht (by omega) hu
      obtain ⟨z, hz, hyz⟩ := sh_up ht hn hr f y (by omega) hy
      exact ⟨z, hz, under_trans ht (x + 1).toNat x y z (by omega) (by omega) hu hyz⟩
    · exact ⟨x, List.mem_filter.2 ⟨hx, by simp [h]⟩, under_self ht hxr.1 (by omega)⟩
theorem may_short {ps : List Int} {ns : List Int} {n d : Int} (ht : tree ps) (hn : n ≤ ps.length) (hr : rises ns n) (hd : d < ps.length) : may ps (shL ps ns) d ↔ may ps ns d := by
  constructor
  · rintro ⟨x, hx, hu⟩; exact ⟨x, (List.mem_filter.1 hx).1, hu⟩
  · rintro ⟨x, hx, hu⟩
    have hxr := rises_mem hr x hx
    obtain ⟨y, hy, hxy⟩ := sh_up ht hn hr (x + 1).toNat x (by omega) hx
    exact ⟨y, hy, under_trans ht (d + 1).toNat d x y hd (by omega) hu hxy⟩
theorem dfL_congr {ps : List Int} {ds : List Bool} {ns ms : List Int} (hb : bld ps ds) (h : ∀ d, isDoor ps ds d → (may ps ns d ↔ may ps ms d)) : dfL ps ds ns = dfL ps ds ms := by
  unfold dfL
  refine List.filter_congr (fun d hd => ?_)
  exact decide_eq_decide.2 (h d ((mem_drs hb).1 hd))
/-- A plan with one key more. -/
theorem ak_facts {ps : List Int} {ds : List Bool} {rs : List (List Int)} {ns : List Int} (h : akC ps ds rs ns = 0) : pln ps ds (rs ++ [ns]) ∧ pkC ps ds (rs ++ [ns]) (rs.length : Int) = 0 ∧ row (rs ++ [ns]) (rs.length : Int) = ns := by
  obtain ⟨hp, hn, h10⟩ := akC_zero h
  have hl := hp.2.1
  have hp2 : pln ps ds (rs ++ [ns]) := ⟨hp.1, ⟨by simp, by simp; omega⟩, fun r hr => by
    rw [List.mem_append, List.mem_singleton] at hr
    rcases hr with hr | rfl
    · exact hp.2.2 r hr
    · exact hn⟩
  refine ⟨hp2, pkC_zero.2 ⟨hp2, ⟨by omega, by simp⟩⟩, ?_⟩
  unfold row
  simp [List.getD]
theorem short_facts {ps : List Int} {ds : List Bool} {rs : List (List Int)} {k : Int} (h : pkC ps ds rs k = 0) :
    (akC ps ds rs (shV ps ds rs k) = 0 ∨ akC ps ds rs (shV ps ds rs k) = 3) ∧ (akC ps ds rs (shV ps ds rs k) = 0 → pkC ps ds (rs ++ [shV ps ds rs k]) (rs.length : Int) = 0 ∧ dfV ps ds (rs ++ [shV ps ds rs k]) (rs.length : Int) = dfV ps ds rs k) := by
  obtain ⟨hp, hk⟩ := pkC_zero.1 h
  obtain ⟨hl, hrow⟩ := row_at hk
  have hr := hp.2.2 _ (List.getElem_mem hl)
  have ht := bld_tree hp.1
  have hs : shV ps ds rs k = shL ps rs[k.toNat] := by unfold shV; rw [if_pos h, hrow]
  have h0 : 0 < (shL ps rs[k.toNat]).length := by
    have hr0 : 0 < rs[k.toNat].length := hr.1
    have hx0 : rs[k.toNat][0] ∈ rs[k.toNat] := List.getElem_mem hr0
    have := rises_mem hr.2 _ hx0
    obtain ⟨y, hy, _⟩ := sh_up ht (Int.le_refl _) hr.2 (rs[k.toNat][0] + 1).toNat _ (by omega) hx0
    exact List.length_pos_of_mem hy
  have hrt : rts ps.length (shL ps rs[k.toNat]) := ⟨h0, rises_filter hr.2⟩
  rw [hs]
  refine ⟨?_, fun h3 => ?_⟩
  · unfold akC
    rw [if_pos hp, if_pos hrt]
    split
    · exact .inr rfl
    · exact .inl rfl
  · obtain ⟨_, h4, h5⟩ := ak_facts h3
    refine ⟨h4, ?_⟩
    unfold dfV
    rw [if_pos h4, if_pos h, h5, hrow]
    exact dfL_congr hp.1 (fun d hd => may_short ht (Int.le_refl _) hr.2 (by have := hd.1; omega))

/-! ### Least rights -/
theorem door_leaf {ps : List Int} {ds : List Bool} {d y : Int} (hb : bld ps ds) (hd : isDoor ps ds y) : ∀ (f : Nat) (x : Int), x < f → x < ps.length → under ps x y → x = y
  | 0, x, hf, _, h => by unfold under at h; rw [ancs_neg (by omega)] at h; simp at h
  | f + 1, x, hf, hx, h => by
    have ht := bld_tree hb
    by_cases e : x = y
    · exact e
    · by_cases h0 : 0 ≤ x
      · have hp := ht x.toNat (by omega)
        have h1 := (under_step ht h0 hx e).1 h
        have h2 := door_leaf (d := d) hb hd f _ (by omega) (by omega) h1
        have hx1 : 1 ≤ x.toNat := Classical.byContradiction fun hh => by
          have : x.toNat = 0 := by omega
          rw [this, hb.1.2.2.1] at h2
          have := hd.1; omega
        have h3 := (hb.2.1 x.toNat (by omega) hx1).2
        rw [h2, hd.2] at h3; cases h3
      · unfold under at h; rw [ancs_neg (by omega)] at h; simp at h
theorem whole_door {ps : List Int} {ds : List Bool} {ns : List Int} {d : Int} (hb : bld ps ds) (hd : isDoor ps ds d) (hm : may ps ns d) : whole ps ds ns d := by
  have hself : d ∈ doorsU ps ds d := mem_doorsU.2 ⟨⟨hd.1.1, by have := hd.1; omega⟩, hd.2, under_self (bld_tree hb) hd.1.1 (by have := hd.1; omega)⟩
  refine ⟨List.length_pos_of_mem hself, fun x hx => ?_⟩
  obtain ⟨h1, _, h3⟩ := mem_doorsU.1 hx
  rw [door_leaf (d := d) hb hd (x + 1).toNat x (by omega) h1.2 h3]
  exact hm
theorem lr_mem {ps : List Int} {ds : List Bool} {ns : List Int} {g : Int} : g ∈ lrL ps ds ns ↔ (0 ≤ g ∧ g < ps.length) ∧ whole ps ds ns g ∧ (par ps g.toNat < 0 ∨ ¬ whole ps ds ns (par ps g.toNat)) := by
  unfold lrL
  rw [mem_idxs]
  constructor
  · rintro ⟨i, h1, h2, rfl⟩
    have := of_decide_eq_true h2
    exact ⟨⟨by omega, by omega⟩, this.1, by simpa using this.2⟩
  · rintro ⟨⟨h0, h1⟩, h2, h3⟩
    refine ⟨g.toNat, by omega, decide_eq_true ?_, by omega⟩
    rw [show ((g.toNat : Nat) : Int) = g from by omega]
    exact ⟨h2, h3⟩
theorem lr_up {ps : List Int} {ds : List Bool} {ns : List Int} (hb : bld ps ds) : ∀ (f : Nat) (x : Int), x < f → 0 ≤ x → x < ps.length → whole ps ds ns x → ∃ g ∈ lrL ps ds ns, under ps x g
  | 0, x, hf, h0, _, _ => by omega
  | f + 1, x, hf, h0, hx, hw => by
    have ht := bld_tree hb
    have hp := ht x.toNat (by omega)
    by_cases h : par ps x.toNat < 0 ∨ ¬ whole ps ds ns (par ps x.toNat)
    · exact ⟨x, lr_mem.2 ⟨⟨h0, hx⟩, hw, h⟩, under_self ht h0 hx⟩
    · have h1 : 0 ≤ par ps x.toNat := by
        rcases Int.lt_or_le (par ps x.toNat) 0 with h2 | h2
        · exact absurd (.inl h2) h
        · exact h2
      have h2 : whole ps ds ns (par ps x.toNat) := Classical.byContradiction fun h3 => h (.inr h3)
      obtain ⟨g, hg, hu⟩ := lr_up hb f _ (by omega) h1 (by omega) h2
      refine ⟨g, hg, ?_⟩
      have hgl := under_le ht (by omega) hu
      exact (under_step ht h0 hx (by omega)).2 hu
theorem may_least {ps : List Int} {ds : List Bool} {ns : List Int} {d : Int} (hb : bld ps ds) (hd : isDoor ps ds d) : may ps (lrL ps ds ns) d ↔ may ps ns d := by
  have hdr := hd.1
  constructor
  · rintro ⟨g, hg, hu⟩
    obtain ⟨_, hw, _⟩ := lr_mem.1 hg
    exact hw.2 d (mem_doorsU.2 ⟨⟨hdr.1, by omega⟩, hd.2, hu⟩)
  · intro hm
    obtain ⟨g, hg, hu⟩ := lr_up hb (d + 1).toNat d (by omega) hdr.1 (by omega) (whole_door hb hd hm)
    exact ⟨g, hg, hu⟩
theorem least_empty {ps : List Int} {ds : List Bool} {ns : List Int} (hb : bld ps ds) : (lrL ps ds ns).length = 0 ↔ (dfL ps ds ns).length = 0 := by
  rw [List.length_eq_zero_iff, List.length_eq_zero_iff]
  constructor
  · intro h
    rw [List.eq_nil_iff_forall_not_mem]
    intro d hd
    obtain ⟨h1, h2⟩ := (mem_dfL hb).1 hd
    obtain ⟨g, hg, _⟩ := (may_least hb h1).2 h2
    rw [h] at hg; simp at hg
  · intro h
    rw [List.eq_nil_iff_forall_not_mem]
    intro g hg
    obtain ⟨_, hw, _⟩ := lr_mem.1 hg
    have hw0 : 0 < (doorsU ps ds g).length := hw.1
    have hx : (doorsU ps ds g)[0] ∈ doorsU ps ds g := List.getElem_mem hw0
    have hm := hw.2 _ hx
    obtain ⟨h1, h2, _⟩ := mem_doorsU.1 hx
    have : (doorsU ps ds g)[0] ∈ dfL ps ds ns := (mem_dfL hb).2 ⟨⟨⟨h1.1, by omega⟩, h2⟩, hm⟩
    rw [h] at this; simp at this
theorem least_facts {ps : List Int} {ds : List Bool} {rs : List (List Int)} {k : Int} (h : pkC ps ds rs k = 0) :
    ((lrV ps ds rs k).length = 0 ↔ (dfV ps ds rs k).length = 0) ∧ (akC ps ds rs (lrV ps ds rs k) ≠ 0 → (lrV ps ds rs k).length = 0 ∨ akC ps ds rs (lrV ps ds rs k) = 3) ∧
      (akC ps ds rs (lrV ps ds rs k) = 0 → pkC ps ds (rs ++ [lrV ps ds rs k]) (rs.length : Int) = 0 ∧ dfV ps ds (rs ++ [lrV ps ds rs k]) (rs.length : Int) = dfV ps ds rs k) := by
  obtain ⟨hp, hk⟩ := pkC_zero.1 h
  have hs : lrV ps ds rs k = lrL ps ds (row rs k) := by unfold lrV; rw [if_pos h]
  have hd : dfV ps ds rs k = dfL ps ds (row rs k) := by unfold dfV; rw [if_pos h]
  rw [hs, hd]
  refine ⟨least_empty hp.1, fun h3 => ?_, fun h3 => ?_⟩
  · by_cases h0 : (lrL ps ds (row rs k)).length = 0
    · exact .inl h0
    · right
      have hrt : rts ps.length (lrL ps ds (row rs k)) := ⟨by omega, rises_of (fun x hx => (lr_mem.1 hx).1) (idxs_pair _ _)⟩
      unfold akC at h3 ⊢
      rw [if_pos hp, if_pos hrt] at h3 ⊢
      split at h3
      · rename_i h10; rw [if_pos h10]
      · omega
  · obtain ⟨_, h4, h5⟩ := ak_facts h3
    refine ⟨h4, ?_⟩
    unfold dfV
    rw [if_pos h4, h5]
    exact dfL_congr hp.1 (fun d hd => may_least hp.1 hd)

/-- Doors that nobody may enter. -/
theorem unused_facts {ps : List Int} {ds : List Bool} {rs : List (List Int)} {d : Int} (h : plC ps ds rs = 0) (hd : d ∈ duV ps ds 0) : pcC ps ds rs 0 d = 0 ∧ ((kfV ps ds rs d).length = 0 ↔ d ∈ udV ps ds rs) := by
  have hp := plC_zero.1 h
  have hb := hp.1
  have h24 := hb.1.1
  have h0 : ncC ps ds [0] = 0 := ncC_one hb ⟨Int.le_refl 0, by omega⟩
  unfold duV at hd
  rw [if_pos h0] at hd
  have hdd : isDoor ps ds d := (mem_drs hb).1 hd
  have hc : pcC ps ds rs 0 d = 0 := pcC_zero.2 ⟨hp, isk0 hp.2.1.1, hdd⟩
  refine ⟨hc, ?_⟩
  unfold kfV udV
  rw [if_pos hc, if_pos hp]
  have hku := kf_used (ps := ps) (rs := rs) (d := d)
  rw [decide_eq_decide] at hku
  unfold udL
  rw [List.mem_filter]
  constructor
  · intro h1
    refine ⟨hd, ?_⟩
    have : ¬ used ps rs d := fun hu => by have := hku.2 hu; omega
    simp [this]
  · rintro ⟨_, h1⟩
    have : ¬ used ps rs d := by simpa using h1
    have := mt hku.1 this
    omega
theorem plC_root {ps : List Int} {ds : List Bool} {rs : List (List Int)} (h : plC ps ds rs = 0) : ncC ps ds [0] = 0 := by
  have hb := (plC_zero.1 h).1
  have h24 := hb.1.1
  exact ncC_one hb ⟨Int.le_refl 0, by omega⟩
theorem ak_all {ps : List Int} {ds : List Bool} {rs : List (List Int)} {ns : List Int} (h : akC ps ds rs ns = 0) : akV (akC ps ds rs ns) ps = ps ∧ akV (akC ps ds rs ns) ds = ds ∧ akV (akC ps ds rs ns) (rs ++ [ns]) = rs ++ [ns] ∧ pln ps ds (rs ++ [ns]) := by
  rw [h]; exact ⟨rfl, rfl, rfl, (ak_facts h).1⟩
theorem short_ak {ps : List Int} {ds : List Bool} {rs : List (List Int)} {k : Int} (h : pkC ps ds rs k = 0) (h1 : akC ps ds rs (shV ps ds rs k) = 0) :
    pkC (akV (akC ps ds rs (shV ps ds rs k)) ps) (akV (akC ps ds rs (shV ps ds rs k)) ds) (akV (akC ps ds rs (shV ps ds rs k)) (rs ++ [shV ps ds rs k])) (rs.length : Int) = 0 ∧
      dfV (akV (akC ps ds rs (shV ps ds rs k)) ps) (akV (akC ps ds rs (shV ps ds rs k)) ds) (akV (akC ps ds rs (shV ps ds rs k)) (rs ++ [shV ps ds rs k])) (rs.length : Int) = dfV ps ds rs k := by
  obtain ⟨e1, e2, e3, _⟩ := ak_all h1
  rw [e1, e2, e3]
  exact (short_facts h).2 h1
theorem least_ak {ps : List Int} {ds : List Bool} {rs : List (List Int)} {k : Int} (h : pkC ps ds rs k = 0) (h1 : akC ps ds rs (lrV ps ds rs k) = 0) :
    pkC (akV (akC ps ds rs (lrV ps ds rs k)) ps) (akV (akC ps ds rs (lrV ps ds rs k)) ds) (akV (akC ps ds rs (lrV ps ds rs k)) (rs ++ [lrV ps ds rs k])) (rs.length : Int) = 0 ∧
      dfV (akV (akC ps ds rs (lrV ps ds rs k)) ps) (akV (akC ps ds rs (lrV ps ds rs k)) ds) (akV (akC ps ds rs (lrV ps ds rs k)) (rs ++ [lrV ps ds rs k])) (rs.length : Int) = dfV ps ds rs k := by
  obtain ⟨e1, e2, e3, _⟩ := ak_all h1
  rw [e1, e2, e3]
  exact (least_facts h).2.2 h1
theorem dec_bne {p q : Prop} [Decidable p] [Decidable q] (h : p ↔ q) : (decide p != decide q) = false := by
  by_cases hp : p <;> simp [hp, ← h]
end B
end Go.Proofs.Ytkkeipogkjlneaa
