/-
  Results of several cells; the least of three; drawn makers' keys.
-/
import Derived.Test.YtaepdknmagaokaaPart
import Derived.Test.YtaepdknmagaokaaNbr
namespace Go.Proofs.Ytaepdknmagaokaa
namespace B
open Go.RowKit

section
variable {P : Program} {n : Nat} {E : List (Nat × Value)} {w : World} {C : World → Prop} {ty : TypeId}
theorem y_min3 {x y z : Operand} {k : IntKind} {a b c : Int} {tys : Array TypeId} (hx : ev E x = .int k a) (hy : ev E y = .int k b) (hz : ev E z = .int k c) : Yields P C E (.call ⟨.builtin .min, #[x, y, z], tys⟩) ty (.int k (min (min a b) c)) :=
  ⟨fun w _ d pos af g => by
    simp [execOp, resolve, invoke, builtin, Builtin.min_, Builtin.min2, hx, hy, hz]
    split <;> split <;> omega⟩
theorem results_cc {fn : Func} {p0 p1 : Tmp} {T0 T1 : TypeId} (h : fn.results = #[.cell p0 T0, .cell p1 T1]) (tmps : Array Value) (P : Program) (w : World) :
    (results fn tmps).run P w = ((asAddr (tmps.getD p0 undef)).run P w).andThen fun a0 u0 => ((loadVar T0 a0).run P u0).andThen fun c0 x0 => ((asAddr (tmps.getD p1 undef)).run P x0).andThen fun a1 u1 => ((loadVar T1 a1).run P u1).andThen fun c1 x1 => .ok (.tuple #[c0, c1]) x1 := by
  simp only [results, h]
  simp [Sem.run_bind, Result.andThen]
theorem Fin.ret_cc {fn : Func} {R : Ending → World → Prop} {p0 p1 : Nat} {T0 b0 m0 T1 b1 m1 : Nat} {cs0 cs1 : List Value} (hr : fn.results = #[.cell p0 T0, .cell p1 T1]) (hA0 : AG P T0 m0) (hm0 : cs0.length = m0) (hp0 : lk E p0 = .pointer (some ⟨b0, 0, none⟩)) (hv0 : VR w b0 cs0) (hA1 : AG P T1 m1) (hm1 : cs1.length = m1) (hp1 : lk E p1 = .pointer (some ⟨b1, 0, none⟩)) (hv1 : VR w b1 cs1) (k : R (.returned (.tuple #[.agg cs0.toArray, .agg cs1.toArray])) w) : Fin (bodyPost P fn R) .ret n E w := by
  refine ⟨fun h => ?_⟩
  obtain ⟨⟨fs0, hu0⟩, hs0⟩ := hA0
  obtain ⟨e0, hg0⟩ := hv0
  obtain ⟨⟨fs1, hu1⟩, hs1⟩ := hA1
  obtain ⟨e1, hg1⟩ := hv1
  refine ⟨rfl, _, ?_, k⟩
  rw [results_cc hr, den_tmp h, den_tmp h, hp0, hp1]
  simp [asAddr, Result.andThen, run_loadVar_row w b0 e0 T0 cs0.toArray (0, 0) _ hg0 hu0 rfl (by simpa [hm0] using hs0), run_loadVar_row w b1 e1 T1 cs1.toArray (0, 0) _ hg1 hu1 rfl (by simpa [hm1] using hs1)]
theorem results_cct {fn : Func} {p0 p1 p2 : Tmp} {T0 T1 : TypeId} (h : fn.results = #[.cell p0 T0, .cell p1 T1, .tmp p2]) (tmps : Array Value) (P : Program) (w : World) :
    (results fn tmps).run P w = ((asAddr (tmps.getD p0 undef)).run P w).andThen fun a0 u0 => ((loadVar T0 a0).run P u0).andThen fun c0 x0 => ((asAddr (tmps.getD p1 undef)).run P x0).andThen fun a1 u1 => ((loadVar T1 a1).run P u1).andThen fun c1 x1 => .ok (.tuple #[c0, c1, tmps.getD p2 undef]) x1 := by
  simp only [results, h]
  simp [Sem.run_bind, Result.andThen]
theorem Fin.ret_cct {fn : Func} {R : Ending → World → Prop} {p0 p1 p2 : Nat} {T0 b0 m0 T1 b1 m1 : Nat} {cs0 cs1 : List Value} {v2 : Value} (hr : fn.results = #[.cell p0 T0, .cell p1 T1, .tmp p2]) (hA0 : AG P T0 m0) (hm0 : cs0.length = m0) (hp0 : lk E p0 = .pointer (some ⟨b0, 0, none⟩)) (hv0 : VR w b0 cs0) (hA1 : AG P T1 m1) (hm1 : cs1.length = m1) (hp1 : lk E p1 = .pointer (some ⟨b1, 0, none⟩)) (hv1 : VR w b1 cs1) (hp2 : lk E p2 = v2) (k : R (.returned (.tuple #[.agg cs0.toArray, .agg cs1.toArray, v2])) w) : Fin (bodyPost P fn R) .ret n E w := by
  refine ⟨fun h => ?_⟩
  obtain ⟨⟨fs0, hu0⟩, hs0⟩ := hA0
  obtain ⟨e0, hg0⟩ := hv0
  obtain ⟨⟨fs1, hu1⟩, hs1⟩ := hA1
  obtain ⟨e1, hg1⟩ := hv1
  refine ⟨rfl, _, ?_, k⟩
  rw [results_cct hr, den_tmp h, den_tmp h, den_tmp h, hp0, hp1, hp2]
  simp [asAddr, Result.andThen, run_loadVar_row w b0 e0 T0 cs0.toArray (0, 0) _ hg0 hu0 rfl (by simpa [hm0] using hs0), run_loadVar_row w b1 e1 T1 cs1.toArray (0, 0) _ hg1 hu1 rfl (by simpa [hm1] using hs1)]
theorem results_cctt {fn : Func} {p0 p1 p2 p3 : Tmp} {T0 T1 : TypeId} (h : fn.results = #[.cell p0 T0, .cell p1 T1, .tmp p2, .tmp p3]) (tmps : Array Value) (P : Program) (w : World) :
    (results fn tmps).run P w = ((asAddr (tmps.getD p0 undef)).run P w).andThen fun a0 u0 => ((loadVar T0 a0).run P u0).andThen fun c0 x0 => ((asAddr (tmps.getD p1 undef)).run P x0).andThen fun a1 u1 => ((loadVar T1 a1).run P u1).andThen fun c1 x1 => .ok (.tuple #[c0, c1, tmps.getD p2 undef, tmps.getD p3 undef]) x1 := by
  simp only [results, h]
  simp [Sem.run_bind, Result.andThen]
theorem Fin.ret_cctt {fn : Func} {R : Ending → World → Prop} {p0 p1 p2 p3 : Nat} {T0 b0 m0 T1 b1 m1 : Nat} {cs0 cs1 : List Value} {v2 v3 : Value} (hr : fn.results = #[.cell p0 T0, .cell p1 T1, .tmp p2, .tmp p3]) (hA0 : AG P T0 m0) (hm0 : cs0.length = m0) (hp0 : lk E p0 = .pointer (some ⟨b0, 0, none⟩)) (hv0 : VR w b0 cs0) (hA1 : AG P T1 m1) (hm1 : cs1.length = m1) (hp1 : lk E p1 = .pointer (some ⟨b1, 0, none⟩)) (hv1 : VR w b1 cs1) (hp2 : lk E p2 = v2) (hp3 : lk E p3 = v3) (k : R (.returned (.tuple #[.agg cs0.toArray, .agg cs1.toArray, v2, v3])) w) : Fin (bodyPost P fn R) .ret n E w := by
  refine ⟨fun h => ?_⟩
  obtain ⟨⟨fs0, hu0⟩, hs0⟩ := hA0
  obtain ⟨e0, hg0⟩ := hv0
  obtain ⟨⟨fs1, hu1⟩, hs1⟩ := hA1
  obtain ⟨e1, hg1⟩ := hv1
  refine ⟨rfl, _, ?_, k⟩
  rw [results_cctt hr, den_tmp h, den_tmp h, den_tmp h, den_tmp h, hp0, hp1, hp2, hp3]
  simp [asAddr, Result.andThen, run_loadVar_row w b0 e0 T0 cs0.toArray (0, 0) _ hg0 hu0 rfl (by simpa [hm0] using hs0), run_loadVar_row w b1 e1 T1 cs1.toArray (0, 0) _ hg1 hu1 rfl (by simpa [hm1] using hs1)]
theorem results_ccttt {fn : Func} {p0 p1 p2 p3 p4 : Tmp} {T0 T1 : TypeId} (h : fn.results = #[.cell p0 T0, .cell p1 T1, .tmp p2, .tmp p3, .tmp p4]) (tmps : Array Value) (P : Program) (w : World) :
    (results fn tmps).run P w = ((asAddr (tmps.getD p0 undef)).run P w).andThen fun a0 u0 => ((loadVar T0 a0).run P u0).andThen fun c0 x0 => ((asAddr (tmps.getD p1 undef)).run P x0).andThen fun a1 u1 => ((loadVar T1 a1).run P u1).andThen fun c1 x1 => .ok (.tuple #[c0, c1, tmps.getD p2 undef, tmps.getD p3 undef, tmps.getD p4 undef]) x1 := by
  simp only [results, h]
  simp [Sem.run_bind, Result.andThen]
theorem Fin.ret_ccttt {fn : Func} {R : Ending → World → Prop} {p0 p1 p2 p3 p4 : Nat} {T0 b0 m0 T1 b1 m1 : Nat} {cs0 cs1 : List Value} {v2 v3 v4 : Value} (hr : fn.results = #[.cell p0 T0, .cell p1 T1, .tmp p2, .tmp p3, .tmp p4]) (hA0 : AG P T0 m0) (hm0 : cs0.length = m0) (hp0 : lk E p0 = .pointer (some ⟨b0, 0, none⟩)) (hv0 : VR w b0 cs0) (hA1 : AG P T1 m1) (hm1 : cs1.length = m1) (hp1 : lk E p1 = .pointer (some ⟨b1, 0, none⟩)) (hv1 : VR w b1 cs1) (hp2 : lk E p2 = v2) (hp3 : lk E p3 = v3) (hp4 : lk E p4 = v4) (k : R (.returned (.tuple #[.agg cs0.toArray, .agg cs1.toArray, v2, v3, v4])) w) : Fin (bodyPost P fn R) .ret n E w := by
  refine ⟨fun h => ?_⟩
  obtain ⟨⟨fs0, hu0⟩, hs0⟩ := hA0
  obtain ⟨e0, hg0⟩ := hv0
  obtain ⟨⟨fs1, hu1⟩, hs1⟩ := hA1
  obtain ⟨e1, hg1⟩ := hv1
  refine ⟨rfl, _, ?_, k⟩
  rw [results_ccttt hr, den_tmp h, den_tmp h, den_tmp h, den_tmp h, den_tmp h, hp0, hp1, hp2, hp3, hp4]
  simp [asAddr, Result.andThen, run_loadVar_row w b0 e0 T0 cs0.toArray (0, 0) _ hg0 hu0 rfl (by simpa [hm0] using hs0), run_loadVar_row w b1 e1 T1 cs1.toArray (0, 0) _ hg1 hu1 rfl (by simpa [hm1] using hs1)]
theorem results_cttt {fn : Func} {p0 p1 p2 p3 : Tmp} {T0 : TypeId} (h : fn.results = #[.cell p0 T0, .tmp p1, .tmp p2, .tmp p3]) (tmps : Array Value) (P : Program) (w : World) :
    (results fn tmps).run P w = ((asAddr (tmps.getD p0 undef)).run P w).andThen fun a0 u0 => ((loadVar T0 a0).run P u0).andThen fun c0 x0 => .ok (.tuple #[c0, tmps.getD p1 undef, tmps.getD p2 undef, tmps.getD p3 undef]) x0 := by
  simp only [results, h]
  simp [Sem.run_bind, Result.andThen]
theorem Fin.ret_cttt {fn : Func} {R : Ending → World → Prop} {p0 p1 p2 p3 : Nat} {T0 b0 m0 : Nat} {cs0 : List Value} {v1 v2 v3 : Value} (hr : fn.results = #[.cell p0 T0, .tmp p1, .tmp p2, .tmp p3]) (hA0 : AG P T0 m0) (hm0 : cs0.length = m0) (hp0 : lk E p0 = .pointer (some ⟨b0, 0, none⟩)) (hv0 : VR w b0 cs0) (hp1 : lk E p1 = v1) (hp2 : lk E p2 = v2) (hp3 : lk E p3 = v3) (k : R (.returned (.tuple #[.agg cs0.toArray, v1, v2, v3])) w) : Fin (bodyPost P fn R) .ret n E w := by
  refine ⟨fun h => ?_⟩
  obtain ⟨⟨fs0, hu0⟩, hs0⟩ := hA0
  obtain ⟨e0, hg0⟩ := hv0
  refine ⟨rfl, _, ?_, k⟩
  rw [results_cttt hr, den_tmp h, den_tmp h, den_tmp h, den_tmp h, hp0, hp1, hp2, hp3]
  simp [asAddr, Result.andThen, run_loadVar_row w b0 e0 T0 cs0.toArray (0, 0) _ hg0 hu0 rfl (by simpa [hm0] using hs0)]
end

/-! ### Every valid maker has a key -/
/-- A zigzag over the depths. -/
def zig (dp i : Nat) : Int := if i % (2 * (dp - 1)) < dp then ((i % (2 * (dp - 1)) : Nat) : Int) else 2 * ((dp : Int) - 1) - ((i % (2 * (dp - 1)) : Nat) : Int)
def zigL (ch dp : Nat) : List Int := (List.range ch).map (zig dp)
def zigP (ch dp : Nat) : Prop := 2 ≤ ch → 2 ≤ dp → (zigL ch dp).length = ch ∧ (∀ x ∈ zigL ch dp, 0 ≤ x ∧ x ≤ (dp : Int) - 1) ∧ (∀ i, i < ch → 1 ≤ i → max ((zigL ch dp).getD i 0 - (zigL ch dp).getD (i - 1) 0) (-((zigL ch dp).getD i 0 - (zigL ch dp).getD (i - 1) 0)) ≤ 1) ∧ (∀ i, i < ch → rn (zigL ch dp) i = 1) ∧ kn (zigL ch dp) ch = min ch dp
instance (ch dp : Nat) : Decidable (zigP ch dp) := by unfold zigP; infer_instance
theorem zig_all : ∀ ch, ch < 7 → ∀ dp, dp < 9 → zigP ch dp := by decide +kernel
theorem bgn_take {q : Mk} {k : List Int} : ∀ (d i : Nat), i + d = k.length → bgn q k → bgn q (k.take i)
  | 0, i, e, h => by rw [show i = k.length from by omega, List.take_length]; exact h
  | d + 1, i, e, h => by
    have h1 := bgn_take d (i + 1) (by omega) h
    rw [← take_snoc (by omega)] at h1
    exact (bgn_snoc.1 h1).1
theorem key_mem {q : Mk} {k : List Int} (hc : cuts q k) (hb : bgn q k) (hk : q.le ≤ (kn k k.length : Int)) : ∀ (n i : Nat), i + n = k.length → k ∈ keysF q n (k.take i)
  | 0, i, e => by
    rw [show i = k.length from by omega, List.take_length]
    unfold keysF; rw [if_pos ⟨hb, hk⟩]; exact List.mem_singleton.2 rfl
  | n + 1, i, e => by
    rw [keysF_up (bgn_take (n + 1) i (by omega) hb)]
    have hi : i < k.length := by omega
    have h1 := hc _ (List.getElem_mem hi)
    have h2 : ((k[i].toNat : Nat) : Int) = k.getD i 0 := by rw [getD_lt hi]; omega
    refine upF_in (f := fun d : Nat => keysF q n (k.take i ++ [(d : Int)])) (d := k[i].toNat) (by omega) ?_
    show k ∈ keysF q n (k.take i ++ [((k[i].toNat : Nat) : Int)])
    rw [h2, take_snoc hi]
    exact key_mem hc hb hk n (i + 1) (by omega)
theorem keysF_ne {q : Mk} (hm : mkOk q) : keysF q q.ch.toNat [] ≠ [] := by
  obtain ⟨m1, m2, m3, m4, m5⟩ := hm
  obtain ⟨z1, z2, z3, z4, z5⟩ := zig_all q.ch.toNat (by omega) q.dp.toNat (by omega) (by omega) (by omega)
  have h := key_mem (q := q) (k := zigL q.ch.toNat q.dp.toNat) (fun x hx => by have := z2 x hx; omega)
    ⟨fun i hi h1 => by have := z3 i (by omega) h1; omega, fun i hi => by have := z4 i (by omega); omega⟩ (by rw [z1, z5]; omega) q.ch.toNat 0 (by omega)
  exact List.ne_nil_of_mem h
theorem aft_len {q : Mk} : ∀ (n : Nat) (ks k x : List Int), x ∈ aft q n ks k → x.length = ks.length + n
  | 0, _, _, _, h => by simp [aft] at h
  | n + 1, ks, k, x, h => by
    rw [aft_succ] at h
    rcases List.mem_append.1 h with h | h
    · have := aft_len n _ k x h; simp at this; omega
    · obtain ⟨d, _, _, h3⟩ := upF_mem h
      have := (keysF_pre n _ x h3).1; simp at this; omega

/-! ### Slices of slices -/
section
variable {te B Bc : Nat} {w w' : World} {v : Value} {cs : List Value} {rs : List (List Int)}
theorem OwX.mod {B' U' : Nat} (h : OwX te w B Bc v cs rs) (hm : Mod B' U' w w') (h1 : U' ≤ B) (h2 : U' ≤ Bc) : OwX te w' B Bc v cs rs := by
  have hu : OU w B w.heap.size te v cs := ⟨h.1, Nat.le_refl _, fun x hx => (h.1.lt x hx).2⟩
  exact ⟨(hu.mod hm (.inr h1)).1, h.2.1, fun i hi => ⟨(h.2.2 i hi).1.mod hm (fun b hb _ => by have := (h.2.2 i hi).2.2 b hb; omega), (h.2.2 i hi).2.1, fun b hb => by have := (h.2.2 i hi).2.2 b hb; have := hm.size; omega⟩⟩
theorem OwX.drawn {b : Nat} (h : OwX te w B Bc v cs rs) (hd : Drawn w b w') (h1 : b < B) (h2 : b < Bc) : OwX te w' B Bc v cs rs := h.mod hd.2 h1 h2
theorem OwX.push {v' c : Value} {r : List Int} (h : OwX te w B Bc v cs rs) (hc : SI w c r) (hi : InB Bc w.heap.size c) (hn : NB c v)
    (hv' : OV w' B te v' (cs ++ [c])) (hg : w.grownBy w' v.ownBlock) (hb : v'.ownBlock = v.ownBlock ∨ ∃ b, v'.ownBlock = some b ∧ w.heap.size ≤ b) : OwX te w' B Bc v' (cs ++ [c]) (rs ++ [r]) := by
  have hsz := hg.size
  have one : ∀ {x : Value} {r : List Int}, SI w x r → InB Bc w.heap.size x → NB x v → SI w' x r ∧ NB x v' ∧ InB Bc w'.heap.size x := fun {x r} h1 h2 h3 =>
    ⟨h1.keep (fun y hy h0 => hg.block y (h1.lt h0 y hy) (fun e => h3 y hy e.symm)), fun y h4 h5 => by
      rcases hb with hb | ⟨b, hb, hb2⟩
      · rw [hb] at h5; exact h3 y h4 h5
      · rw [hb] at h5; have := h2 y h4; simp only [Option.some.injEq] at h5; omega, fun y hy => by have := h2 y hy; omega⟩
  refine ⟨hv', by simp [h.2.1], fun i hlt => ?_⟩
  have hcl := h.2.1
  by_cases e1 : i < rs.length
  · have e2 : (cs ++ [c]).getD i undef = cs.getD i undef := by simp [List.getD, List.getElem?_append_left (show i < cs.length by omega)]
    have e3 : (rs ++ [r]).getD i [] = rs.getD i [] := by simp [List.getD, List.getElem?_append_left e1]
    rw [e2, e3]
    exact one (h.2.2 i e1).1 (h.2.2 i e1).2.2 (h.2.2 i e1).2.1
  · have e4 : i = rs.length := by simp at hlt; omega
    subst e4
    have e2 : (cs ++ [c]).getD rs.length undef = c := by rw [← hcl]; simp [List.getD]
    have e3 : (rs ++ [r]).getD rs.length [] = r := by simp [List.getD]
    rw [e2, e3]
    exact one hc hi hn
theorem InB.up {B U B' U' : Nat} {v : Value} (h : InB B U v) (h1 : B' ≤ B) (h2 : U ≤ U') : InB B' U' v := fun b hb => by have := h b hb; omega
/-- A list of numbers whose block lies from B up to U. -/
def RuI (w : World) (B U : Nat) (v : Value) (xs : List Int) : Prop := SI w v xs ∧ InB B U v ∧ U ≤ w.heap.size
theorem RuI.of {U : Nat} {xs : List Int} (h : RuI w B U v xs) : RuI w B U v xs := h
theorem RuI.rd {U : Nat} {xs : List Int} (h : RuI w B U v xs) : SI w v xs := h.1
theorem RuI.ext {U : Nat} {xs : List Int} (h : RuI w B U v xs) (he : Ext w w') : RuI w' B U v xs := ⟨h.1.ext he, h.2.1, Nat.le_trans h.2.2 he.size⟩
theorem RuI.mod {U B' U' : Nat} {xs : List Int} (h : RuI w B U v xs) (hm : Mod B' U' w w') (hd : U ≤ B' ∨ U' ≤ B) : RuI w' B U v xs := ⟨SV.mod' h.1 h.2.1 hm hd, h.2.1, Nat.le_trans h.2.2 hm.size⟩
theorem RuN.oneL {U : Nat} {α : Type} {f : List α → List Value} {ss : List (List α)} (h : RuN f w B U v ss) : ([v] : List Value).all (·.oneCell') = true := by
  obtain ⟨cs, h1⟩ := h.rd
  simp [slice_one h1.1]
theorem RuN.drop1 {U : Nat} (h : RuN ints w B U v rs) (hl : 1 ≤ rs.length) : RuN ints w B U (vcut v 1 rs.length) (rs.drop 1) := by
  obtain ⟨ds, h1, h2, h3, h4⟩ := h
  have h5 := h1.1.cut (l := 1) (h := ds.length) (by rw [h1.2.1]; exact hl) (Nat.le_refl _)
  rw [List.take_length, h1.2.1] at h5
  have hd : ∀ {α : Type} {l : List α} {x : α} {i : Nat}, (l.drop 1).getD i x = l.getD (i + 1) x := fun {α l x i} => by simp [List.getD, Nat.add_comm]
  refine ⟨ds.drop 1, ⟨h5, by rw [List.length_drop, List.length_drop, h1.2.1], fun i hi => ?_⟩, fun b hb => h2 b (vcut_block b hb), h3, fun i hi => ?_⟩
  · rw [List.length_drop] at hi
    rw [hd, hd]
    exact h1.2.2 (i + 1) (by omega)
  · rw [List.length_drop] at hi
    rw [hd]
    exact h4 (i + 1) (by omega)
end
end B
end Go.Proofs.Ytaepdknmagaokaa
