/-
  Parts of struct variables, function values, and what package slices does with a slice of one's own.
-/
import Derived.Test.YtebegkegkdmbjaaDoorStruct
import Derived.Test.YtebegkegkdmbjaaDoorNest
import Derived.Test.YtebegkegkdmbjaaDoorCut
import Derived.Laws.CopyRow
import Derived.Deep.MidRow
import Derived.Lib.SliceRun
namespace Go.Proofs.YtebegkegkdmbjaaDoor
namespace B
open Go.RowKit

section
variable {P : Program} {ops : Array Oper} {Q : Exit → Act → World → Prop} {rest : List Oper} {n : Nat} {E : List (Nat × Value)} {w : World} {ty : TypeId} {pos : String} {af : Array Edge} {C : World → Prop}

/-! ### A struct inside a struct -/
theorem y_loadp {p : Operand} {T : TypeId} {b k m : Nat} {cs ds : List Value} (hA : AG P T m) (hv : ∀ w, C w → VR w b cs) (hp : ev E p = .pointer (some ⟨b, k, none⟩)) (hd : (cs.drop k).take m = ds) (hm : ds.length = m) : Yields P C E (.load T p) ty (.agg ds.toArray) :=
  ⟨fun w hw d pos af g => by
    obtain ⟨⟨fs, hu⟩, hs⟩ := hA
    have hr : w.rangeAt b k ds := fun j v hj => by
      rw [(hv w hw).cell, ← hj, ← hd, List.getElem?_take, List.getElem?_drop]
      have : j < ds.length := (List.getElem?_eq_some_iff.1 hj).1
      rw [if_pos (by omega)]
    have h1 := run_loadAt_mid (P := P) w b k T ds _ hr hu rfl (by rw [hs, hm])
    simp [execOp, hp, h1]⟩

theorem RL.storep {T : TypeId} {p xo : Operand} {b k m : Nat} {cs ds : List Value} (hA : AG P T m) (hv : VR w b cs) (hp : ev E p = .pointer (some ⟨b, k, none⟩)) (hx : ev E xo = .agg ds.toArray) (hm : ds.length = m) (hl : Nat.ble (k + ds.length) cs.length = true) (h1 : ds.all (·.oneCell') = true)
    (k' : ∀ w', VR w' b (cs.take k ++ ds ++ cs.drop (k + ds.length)) → w.grownBy w' (some b) → RL P ops Q rest n E w') : RL P ops Q (⟨none, .store T p xo, ty, pos, af, none⟩ :: rest) n E w := by
  obtain ⟨e, hg⟩ := hv
  obtain ⟨_, hs⟩ := hA
  have hl' := Nat.le_of_ble_eq_true hl
  have hst := run_storeCells_at P b k e ds 0 cs.toArray w hg (by simpa using hl') (by simpa using h1)
  have hrun : (storeVar T ⟨b, k, none⟩ (.agg ds.toArray)).run P w = .ok () (w.setRow b (cs.take k ++ ds ++ cs.drop (k + ds.length)).toArray) := by
    cases hq : P.info? T with
    | none => simp [hq] at hs
    | some i =>
      have hs' : ds.length = i.size := by simp [hq] at hs; omega
      simp only [Nat.add_zero] at hst
      simp [storeVar, sizeOf, typeInfo, hq, Value.cells, hs', hst]
  have := VR.setRow (w := w) (b := b) (cs := cs) ⟨e, hg⟩ (cs.take k ++ ds ++ cs.drop (k + ds.length))
  refine RL.skip (w' := w.setRow b (cs.take k ++ ds ++ cs.drop (k + ds.length)).toArray) ?_ (k' _ this.1 this.2)
  simp [execOp, Instr.storeAt, hp, hx, Instr.sureAddr, hrun]

theorem results_cell_tmp2 {fn : Func} {p u v : Tmp} {ty : TypeId} (h : fn.results = #[.cell p ty, .tmp u, .tmp v]) (tmps : Array Value) (P : Program) (w : World) :
    (results fn tmps).run P w = ((asAddr (tmps.getD p undef)).run P w).andThen fun ad w' => ((loadVar ty ad).run P w').andThen fun c w'' => .ok (.tuple #[c, tmps.getD u undef, tmps.getD v undef]) w'' := by
  simp only [results, h]
  simp [Sem.run_bind, Result.andThen]
theorem Fin.retctt {fn : Func} {R : Ending → World → Prop} {t u u2 T b m : Nat} {cs : List Value} {v v2 : Value} (hr : fn.results = #[.cell t T, .tmp u, .tmp u2]) (hA : AG P T m) (hm : cs.length = m) (hp : lk E t = .pointer (some ⟨b, 0, none⟩)) (hv : VR w b cs) (hu2 : lk E u = v) (hu3 : lk E u2 = v2) (k : R (.returned (.tuple #[.agg cs.toArray, v, v2])) w) : Fin (bodyPost P fn R) .ret n E w := by
  refine ⟨fun h => ?_⟩
  obtain ⟨⟨fs, hu⟩, hs⟩ := hA
  obtain ⟨e, hg⟩ := hv
  refine ⟨rfl, _, ?_, k⟩
  rw [results_cell_tmp2 hr, den_tmp h, den_tmp h, den_tmp h, hp, hu2, hu3]
  simp [asAddr, run_loadVar_row w b e T cs.toArray (0, 0) _ hg hu rfl (by simpa [hm] using hs)]

/-! ### Function values -/
theorem y_fnl {f : Go.Fn} {cap : Array Operand} {cl : List Value} (h : cap.toList.map (ev E) = cl) : Yields P C E (.makeFunc f #[] cap) ty (.func f #[] cl.toArray) := by
  subst h
  refine ⟨fun w _ d pos af g => ?_⟩
  have e : cap.map (ev E) = (cap.toList.map (ev E)).toArray := by apply Array.toList_inj.1; simp
  simp [execOp, Instr.makeFunc, e]

theorem RL.callw {d f : Nat} {cv : Operand} {cl : List Value} {args : Array Operand} {tys : Array TypeId} {R : Value → World → Prop} (hd : Nat.blt d n = true)
    (hv : ev E cv = .func (.func f) #[] cl.toArray) (hc : Does P f (args.toList.map (ev E) ++ cl).toArray w R) (k : ∀ v w', R v w' → RL P ops Q rest n ((d, v) :: E) w') :
    RL P ops Q (⟨some d, .call ⟨.value cv, args, tys⟩, ty, pos, af, none⟩ :: rest) n E w := by
  refine RL.callv (first := #[]) (cap := cl.toArray) hd hv ?_ k
  have e : #[] ++ evs E args ++ cl.toArray = (args.toList.map (ev E) ++ cl).toArray := by unfold evs; simp
  rw [e]; exact hc

/-! ### Slices and nil -/
def isNilS : Value → Bool | .slice none _ _ => true | _ => false
theorem y_snil {x : Operand} {T U e : TypeId} {v z : Value} {n' c' : Nat} {bytes : Nat} {w0 : World} {vs : List Value} (hT : SliceT P T e z bytes) (hv : SV w0 v vs) (hx : ev E x = v) : Yields P C E (.binOp .eql T x (.const (.slice none n' c')) U) ty (.bool (isNilS v)) :=
  ⟨fun w _ d pos af g => by
    obtain ⟨ao, cap, rfl, _⟩ := hv.shape
    have h1 := Lib.run_eql_slice_nil (P := P) w T e ao vs.length cap n' c' hT.und
    have h2 : Value.bool ao.isNone = .bool (isNilS (.slice ao vs.length cap)) := by cases ao <;> rfl
    have hg : (eqGuard .eql T x (.const (.slice none n' c')) (.slice ao vs.length cap) (.slice none n' c')).run P w = .ok () w := rfl
    have h3 : ev E (.const (.slice none n' c')) = .slice none n' c' := rfl
    simp only [execOp, hx, h3, Sem.run_bind, hg, Result.andThen_ok, h1, h2]
    rfl⟩
theorem isNilS_nil {w : World} {v : Value} {vs : List Value} (hv : SV w v vs) (h : isNilS v = true) : vs = [] := by
  rcases hv with ⟨_, _, _, h1, _⟩ | ⟨b, off, cap, cur, e, fz, rfl, _⟩
  · exact h1
  · cases h
end

/-! ### A row of one's own: its head, and its tail cleared -/
theorem OV.head {w : World} {B e : Nat} {v : Value} {vs : List Value} (h : OV w B e v vs) {k : Nat} (hk : k ≤ vs.length) : OV w B e (vcut v 0 k) (vs.take k) := by
  have hl : (vs.take k).length = k := by simp; omega
  rcases h.2 with ⟨rfl, h0⟩ | ⟨g, cap, cur, rfl, hb, hg, h1, h2, h3, h4⟩
  · have hk0 : k = 0 := by omega
    subst hk0
    have : vcut (.slice none vs.length 0) 0 0 = .slice none 0 0 := by unfold vcut; simp [sliced]
    unfold vcut
    simp only [List.take_zero]
    exact ⟨rfl, .inl ⟨by simp [sliced], rfl⟩⟩
  · unfold OV
    rw [hl]
    refine ⟨by simpa using hl, .inr ⟨g, cap, cur, ?_, hb, hg, by omega, h2, h3, ?_⟩⟩
    · unfold vcut
      simp only [sliced, Option.map_some, Nat.zero_mul, Nat.sub_zero, Addr.add_lit, Nat.add_zero]
      split <;> rfl
    · rw [← h4, List.take_take]; congr 1; omega
theorem vcut_own {w : World} {B e : Nat} {v : Value} {vs : List Value} (h : OV w B e v vs) (k : Nat) : (vcut v 0 k).ownBlock = v.ownBlock := by
  rcases h.2 with ⟨rfl, h0⟩ | ⟨g, cap, cur, rfl, hb, hg, r⟩
  · unfold vcut; simp only [sliced, Option.map_none, ite_self]; rfl
  · unfold vcut
    simp only [sliced, Option.map_some, Nat.zero_mul, Addr.add_lit, Nat.add_zero]
    split <;> rfl

theorem OV.cleared {B e g cap : Nat} {z : Value} : ∀ (m i : Nat) (w : World) (vs : List Value), OV w B e (.slice (some ⟨g, 0, none⟩) vs.length cap) vs → i + m ≤ vs.length →
    ∃ ys, OV (w.setCells g i (List.replicate m z)) B e (.slice (some ⟨g, 0, none⟩) vs.length cap) ys ∧ ys.length = vs.length ∧ ys.take i = vs.take i ∧ w.grownBy (w.setCells g i (List.replicate m z)) (some g)
  | 0, i, w, vs, h, _ => ⟨vs, h, rfl, rfl, World.grownBy.refl _ _⟩
  | m + 1, i, w, vs, h, hi => by
    have h' := h
    unfold OV at h'
    have hs := World.ownsRow.stored (w := w) (g := g) (cap := cap) h' i z
    have ho : OV (w.setCell ⟨g, i, none⟩ z) B e (.slice (some ⟨g, 0, none⟩) (vs.set i z).length cap) (vs.set i z) := by
      unfold OV; rw [List.length_set]; exact hs.1
    obtain ⟨ys, h1, h2, h3, h4⟩ := OV.cleared (z := z) m (i + 1) _ (vs.set i z) ho (by rw [List.length_set]; omega)
    rw [List.length_set] at h1 h2
    refine ⟨ys, by rw [List.replicate_succ]; exact h1, h2, ?_, by rw [List.replicate_succ]; exact grown_trans hs.2 h4⟩
    have : (ys.take (i + 1)).take i = ((vs.set i z).take (i + 1)).take i := by rw [h3]
    rw [List.take_take, List.take_take, show min i (i + 1) = i from by omega, List.take_set_of_le (by omega)] at this
    exact this

section
variable {P : Program} {ops : Array Oper} {Q : Exit → Act → World → Prop} {rest : List Oper} {n : Nat} {E : List (Nat × Value)} {w : World} {ty : TypeId} {pos : String} {af : Array Edge} {C : World → Prop}

/-- clear(s[i:]) on a row of one's own. -/
theorem RL.clear {B T e : Nat} {x : Operand} {z v u : Value} {bytes i : Nat} {vs : List Value} (hT : SliceT P T e z bytes) (h1 : z.oneCell' = true) (ho : OV w B e v vs) (hi : i < vs.length) (hu : u = vcut v i vs.length) (hx : ev E x = u)
    (k : ∀ w' ys, OV w' B e v ys → ys.length = vs.length → ys.take i = vs.take i → w.grownBy w' v.ownBlock → RL P ops Q rest n E w') :
    RL P ops Q (⟨none, .call ⟨.builtin .clear, #[x], #[T]⟩, ty, pos, af, none⟩ :: rest) n E w := by
  rcases ho.2 with ⟨rfl, h0⟩ | ⟨g, cap, cur, hve, hb, hg, g1, g2, g3, g4⟩
  · omega
  · subst hve
    have hz : ∀ w, (zeroValue e).run P w = .ok z w := fun w => by
      obtain ⟨inf, e1, e2, _⟩ := hT.inf
      simp [zeroValue, typeInfo, e1, e2]
    have hcut : u = .slice (some ⟨g, i, none⟩) (vs.length - i) (cap - i) := by
      rw [hu]; unfold vcut
      simp only [sliced, Option.map_some, Nat.mul_one, Addr.add_lit, Nat.zero_add]
      rw [if_neg (by omega)]
    have hcell : ∀ j, j < vs.length - i → (w.cell? ⟨g, i + j, none⟩).isSome = true := fun j hj => by
      rw [World.ownsRow.cellAt (g := g) (cap := cap) ho (i + j) (by omega), List.getElem?_eq_getElem (by omega)]; rfl
    have hfro : ∀ j, j < vs.length - i → w.frozen? ⟨g, i + j, none⟩ = false := fun j hj => World.ownsRow.frozenAt (g := g) (cap := cap) ho (i + j)
    have hrun := Lib.run_clear_slice (P := P) w T e ty z hT.und hz hT.zone h1 g i (vs.length - i) (cap - i) (by omega) hcell hfro
    obtain ⟨ys, y1, y2, y3, y4⟩ := OV.cleared (z := z) (vs.length - i) i w vs ho (by omega)
    have y1' : OV (w.setCells g i (List.replicate (vs.length - i) z)) B e (.slice (some ⟨g, 0, none⟩) vs.length cap) ys := y1
    refine ⟨fun hk => ?_⟩
    unfold wpList
    rw [if_pos (wanted_none _)]
    refine .inl ?_
    unfold Oper.wp
    rw [den_eval hk]
    have hex : (execOp (ev E) ⟨none, .call ⟨.builtin .clear, #[x], #[T]⟩, ty, pos, af, none⟩).run P w = .ok (.value (.tuple #[])) (w.setCells g i (List.replicate (vs.length - i) z)) := by
      simp [execOp, resolve, invoke, builtin, hx, hcut, hrun]
    rw [hex]
    exact (k _ ys y1' y2 y3 y4).h hk
end

theorem any_dec {α : Type} {xs : List α} {p : α → Prop} [DecidablePred p] : xs.any (fun x => decide (p x)) = decide (∃ x ∈ xs, p x) := by
  rw [Bool.eq_iff_iff]; simp
theorem any_cong {α : Type} {xs : List α} {p q : α → Bool} (h : ∀ x ∈ xs, p x = q x) : xs.any p = xs.any q := by
  rw [Bool.eq_iff_iff, List.any_eq_true, List.any_eq_true]
  exact ⟨fun ⟨x, h1, h2⟩ => ⟨x, h1, by rw [← h x h1]; exact h2⟩, fun ⟨x, h1, h2⟩ => ⟨x, h1, by rw [h x h1]; exact h2⟩⟩

/-- The place of the first element that p takes, or -1. -/
def idxF {α : Type} (p : α → Bool) (xs : List α) (i : Int) : Prop := (i = -1 ∧ ∀ x ∈ xs, p x = false) ∨ ∃ k : Nat, i = (k : Int) ∧ ∃ h : k < xs.length, p xs[k] = true ∧ ∀ x ∈ xs.take k, p x = false
theorem idxF_any {α : Type} {p : α → Bool} {xs : List α} {i : Int} (h : idxF p xs i) : decide (0 ≤ i) = xs.any p := by
  rcases h with ⟨rfl, h⟩ | ⟨k, rfl, hk, h1, h2⟩
  · rw [Bool.eq_iff_iff]; simp [List.any_eq_true]
    intro x hx; rw [h x hx]
  · rw [Bool.eq_iff_iff, List.any_eq_true, decide_eq_true_eq]
    exact ⟨fun _ => ⟨_, List.getElem_mem hk, h1⟩, fun _ => by omega⟩
theorem filter_snoc {p : Int → Bool} {xs : List Int} {k : Nat} (h : k < xs.length) : (xs.take (k + 1)).filter p = (xs.take k).filter p ++ (if p xs[k] = true then [xs[k]] else []) := by
  rw [List.take_succ_eq_append_getElem h, List.filter_append]
  by_cases hp : p xs[k] = true <;> simp [hp]
theorem drop_get {α : Type} {xs ys : List α} {j : Nat} (h : ys.drop j = xs.drop j) (h1 : j < ys.length) (h2 : j < xs.length) : ys[j] = xs[j] := by
  have h3 : (ys.drop j)[0]? = (xs.drop j)[0]? := by rw [h]
  rw [List.getElem?_drop, List.getElem?_drop, Nat.add_zero, List.getElem?_eq_getElem h1, List.getElem?_eq_getElem h2] at h3
  exact Option.some.inj h3
theorem filter_all {p : Int → Bool} {xs : List Int} (h : ∀ x ∈ xs, p x = true) : xs.filter p = xs := List.filter_eq_self.2 h
end B
end Go.Proofs.YtebegkegkdmbjaaDoor
