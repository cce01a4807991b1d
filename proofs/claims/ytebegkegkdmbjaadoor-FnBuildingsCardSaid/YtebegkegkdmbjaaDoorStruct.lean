/-
  Variables of struct type: a block of cells each.
-/
import Derived.Test.YtebegkegkdmbjaaDoorOwn
import Derived.Laws.Rows
import Derived.Laws.Tables
import Derived.Laws.ResultCell
namespace Go.Proofs.YtebegkegkdmbjaaDoor
namespace B
open Go.RowKit

/-- Block b holds these cells, and they may be written. -/
def VR (w : World) (b : Nat) (cs : List Value) : Prop := ∃ e, w.heap[b]? = some (.cells cs.toArray e (0, 0))

section
variable {w w' : World} {b : Nat} {cs : List Value}
theorem VR.lt (h : VR w b cs) : b < w.heap.size := by obtain ⟨e, h⟩ := h; exact (Array.getElem?_eq_some_iff.1 h).1
theorem VR.ext (h : VR w b cs) (he : Ext w w') : VR w' b cs := by obtain ⟨e, h⟩ := h; exact ⟨e, he.block h⟩
theorem VR.keep (h : VR w b cs) (hb : w'.heap[b]? = w.heap[b]?) : VR w' b cs := by obtain ⟨e, h⟩ := h; exact ⟨e, hb.trans h⟩
theorem VR.grown {row : Option Nat} (h : VR w b cs) (hg : w.grownBy w' row) (hn : row ≠ some b) : VR w' b cs := h.keep (hg.block b h.lt (fun e => hn e.symm))
theorem VR.mod {B U : Nat} (h : VR w b cs) (hm : Mod B U w w') (hn : ¬ (B ≤ b ∧ b < U)) : VR w' b cs := h.keep (hm.block b h.lt hn)
theorem VR.cell (h : VR w b cs) (j : Nat) : w.cell? ⟨b, j, none⟩ = cs[j]? := by
  obtain ⟨e, h⟩ := h
  rw [cell_of_row w b j _ e (0, 0) h]; simp
theorem VR.of (w : World) (cs : List Value) (t : TypeId) : VR (w.alloc (.cells cs.toArray t)) w.heap.size cs := ⟨t, heap_alloc_new w _⟩
theorem VR.setRow (h : VR w b cs) (ds : List Value) : VR (w.setRow b ds.toArray) b ds ∧ w.grownBy (w.setRow b ds.toArray) (some b) := by
  obtain ⟨e, h⟩ := h
  have hlt := (Array.getElem?_eq_some_iff.1 h).1
  refine ⟨⟨e, setRow_heap w b _ _ e _ h⟩, ?_⟩
  refine ⟨by simp [World.setRow], by simp [World.setRow], by simp [World.setRow], by simp [World.setRow], fun k hk hne => ?_⟩
  have hkb : b ≠ k := fun e => hne (by rw [e])
  simp [World.setRow, Array.getElem?_modify, hkb]
end

/-- A field of a struct type lies at this place. -/
def FA (P : Program) (T : TypeId) (j off : Nat) : Prop := ∃ fs f i, P.underlying T = some (.struct fs) ∧ fs[j]? = some f ∧ P.info? f.type = some i ∧ Nat.beq i.size 0 = false ∧ f.offset = off
/-- A struct type of n cells. -/
def AG (P : Program) (T : TypeId) (n : Nat) : Prop := (∃ fs, P.underlying T = some (.struct fs)) ∧ (P.info? T).map (·.size) = some n
/-- The cells of its zero value. -/
def ZE (P : Program) (T : TypeId) (cs : List Value) : Prop := ∃ i z, P.info? T = some i ∧ i.zero = some z ∧ z.cells = cs.toArray

section
variable {P : Program} {ops : Array Oper} {Q : Exit → Act → World → Prop} {rest : List Oper} {n : Nat} {E : List (Nat × Value)} {w : World} {ty : TypeId} {pos : String} {af : Array Edge} {C : World → Prop}

theorem y_fa {p : Operand} {T : TypeId} {j off b o o' : Nat} (hF : FA P T j off) (hp : ev E p = .pointer (some ⟨b, o, none⟩)) (ho : o + off = o') : Yields P C E (.fieldAddr T p j) ty (.pointer (some ⟨b, o', none⟩)) :=
  ⟨fun w _ d pos af g => by
    obtain ⟨fs, f, i, h1, h2, h3, h4, h5⟩ := hF
    subst ho h5
    have hsz : (sizeOf f.type).run P w = .ok i.size w := by simp [sizeOf, typeInfo, h3]
    have h4 : i.size ≠ 0 := fun e => by rw [e] at h4; cases h4
    simp [execOp, Instr.fieldAt, hp, Instr.sureAddr, run_underlying h1, h2, fieldPlace, hsz, h4, Addr.add_lit]⟩

theorem y_loadv {p : Operand} {T : TypeId} {b k : Nat} {cs : List Value} {x : Value} (hS : ScalarT P T) (hv : ∀ w, C w → VR w b cs) (hp : ev E p = .pointer (some ⟨b, k, none⟩)) (hk : cs[k]? = some x) : Yields P C E (.load T p) ty x :=
  y_loadc hS (fun w hw => by rw [(hv w hw).cell k, hk]) hp

theorem y_loads {p : Operand} {T : TypeId} {b m : Nat} {cs : List Value} (hA : AG P T m) (hm : cs.length = m) (hv : ∀ w, C w → VR w b cs) (hp : ev E p = .pointer (some ⟨b, 0, none⟩)) : Yields P C E (.load T p) ty (.agg cs.toArray) :=
  ⟨fun w hw d pos af g => by
    obtain ⟨⟨fs, hu⟩, hs⟩ := hA
    obtain ⟨e, hg⟩ := hv w hw
    simp [execOp, Instr.loadAt, hp, Instr.sureAddr, run_loadVar_row w b e T cs.toArray (0, 0) _ hg hu rfl (by simpa [hm] using hs)]⟩

theorem RL.box {d : Nat} {T : TypeId} {x : Operand} {v : Value} {cs : List Value} (hd : Nat.blt d n = true) (hc : v.cells = cs.toArray) (hx : ev E x = v)
    (k : ∀ w', VR w' w.heap.size cs → Ext w w' → RL P ops Q rest n ((d, .pointer (some ⟨w.heap.size, 0, none⟩)) :: E) w') : RL P ops Q (⟨some d, .box T x, ty, pos, af, none⟩ :: rest) n E w := by
  refine RL.val hd (v := .pointer (some ⟨w.heap.size, 0, none⟩)) (w' := w.alloc (.cells cs.toArray T)) ?_ (k _ (VR.of w cs T) (Ext.alloc _ _))
  simp [execOp, Instr.box, hx, newVar, newRow, hc]

theorem RL.alloc {d : Nat} {T : TypeId} {cs : List Value} (hd : Nat.blt d n = true) (hz : ZE P T cs)
    (k : ∀ w', VR w' w.heap.size cs → Ext w w' → RL P ops Q rest n ((d, .pointer (some ⟨w.heap.size, 0, none⟩)) :: E) w') : RL P ops Q (⟨some d, .alloc T, ty, pos, af, none⟩ :: rest) n E w := by
  refine RL.val hd (v := .pointer (some ⟨w.heap.size, 0, none⟩)) (w' := w.alloc (.cells cs.toArray T)) ?_ (k _ (VR.of w cs T) (Ext.alloc _ _))
  obtain ⟨i, z, h1, h2, h3⟩ := hz
  simp [execOp, Instr.alloc, zeroValue, typeInfo, h1, h2, newVar, newRow, h3]

/-- A store of one cell. -/
theorem RL.storev {T : TypeId} {p xo : Operand} {b k : Nat} {cs : List Value} {x : Value} (hs : ∃ i, P.info? T = some i ∧ i.size = 1) (hv : VR w b cs) (hk : k < cs.length) (hp : ev E p = .pointer (some ⟨b, k, none⟩)) (hx : ev E xo = x) (h1 : x.oneCell' = true)
    (k' : ∀ w', VR w' b (cs.set k x) → w.grownBy w' (some b) → RL P ops Q rest n E w') : RL P ops Q (⟨none, .store T p xo, ty, pos, af, none⟩ :: rest) n E w := by
  obtain ⟨e, hg⟩ := hv
  have hsz : (sizeOf T).run P w = .ok 1 w := by obtain ⟨i, h2, h3⟩ := hs; simp [sizeOf, typeInfo, h2, h3]
  have hcell : w.cell? ⟨b, k, none⟩ = some cs[k] := by rw [cell_of_row w b k _ e (0, 0) hg]; simp [hk]
  have hfro : w.frozen? ⟨b, k, none⟩ = false := by simp [World.frozen?, hg]
  refine RL.storec hsz hcell hfro hp hx h1 ?_
  have e2 : w.setCell ⟨b, k, none⟩ x = w.setRow b (cs.set k x).toArray := by
    rw [setCell_eq_setRow w b k cs.toArray e (0, 0) x hg]; simp
  rw [e2]
  have := VR.setRow (w := w) (b := b) (cs := cs) ⟨e, hg⟩ (cs.set k x)
  exact k' _ this.1 this.2

/-- A store of a whole struct. -/
theorem RL.stores {T : TypeId} {p xo : Operand} {b m : Nat} {cs ds : List Value} (hA : AG P T m) (hv : VR w b cs) (hp : ev E p = .pointer (some ⟨b, 0, none⟩)) (hx : ev E xo = .agg ds.toArray) (hm : ds.length = m) (hl : ds.length = cs.length) (h1 : ds.all (·.oneCell') = true)
    (k' : ∀ w', VR w' b ds → w.grownBy w' (some b) → RL P ops Q rest n E w') : RL P ops Q (⟨none, .store T p xo, ty, pos, af, none⟩ :: rest) n E w := by
  obtain ⟨e, hg⟩ := hv
  obtain ⟨_, hs⟩ := hA
  have hrun := run_storeVar_row (P := P) w b e T cs.toArray ds.toArray hg (by simpa [hm] using hs) (by simp [hl]) (by simpa using h1)
  have := VR.setRow (w := w) (b := b) (cs := cs) ⟨e, hg⟩ ds
  refine RL.skip (w' := w.setRow b ds.toArray) ?_ (k' _ this.1 this.2)
  simp [execOp, Instr.storeAt, hp, hx, Instr.sureAddr, hrun]

theorem Fin.retc {fn : Func} {R : Ending → World → Prop} {t T b m : Nat} {cs : List Value} (hr : fn.results = #[.cell t T]) (hA : AG P T m) (hm : cs.length = m) (hp : lk E t = .pointer (some ⟨b, 0, none⟩)) (hv : VR w b cs) (k : R (.returned (.agg cs.toArray)) w) : Fin (bodyPost P fn R) .ret n E w := by
  refine ⟨fun h => ?_⟩
  obtain ⟨⟨fs, hu⟩, hs⟩ := hA
  obtain ⟨e, hg⟩ := hv
  exact ⟨rfl, _, results_cell_row hr _ w b e cs.toArray (0, 0) _ (by rw [den_tmp h, hp]) hg hu rfl (by simpa [hm] using hs), k⟩

theorem Fin.retct {fn : Func} {R : Ending → World → Prop} {t u T b m : Nat} {cs : List Value} {v : Value} (hr : fn.results = #[.cell t T, .tmp u]) (hA : AG P T m) (hm : cs.length = m) (hp : lk E t = .pointer (some ⟨b, 0, none⟩)) (hv : VR w b cs) (hu2 : lk E u = v) (k : R (.returned (.tuple #[.agg cs.toArray, v])) w) : Fin (bodyPost P fn R) .ret n E w := by
  refine ⟨fun h => ?_⟩
  obtain ⟨⟨fs, hu⟩, hs⟩ := hA
  obtain ⟨e, hg⟩ := hv
  refine ⟨rfl, _, ?_, k⟩
  rw [results_cell_tmp hr, den_tmp h, den_tmp h, hp, hu2]
  simp [asAddr, run_loadVar_row w b e T cs.toArray (0, 0) _ hg hu rfl (by simpa [hm] using hs)]
end

/-! ### A struct of its parts -/
/-- A struct type: its zero cells, and where its fields lie. -/
def BD (P : Program) (T : TypeId) (zs : List Value) (pl : List (Nat × Nat)) : Prop := ∃ it fs z, P.info? T = some it ∧ P.underlying T = some (.struct fs) ∧ it.zero = some z ∧ z.cells = zs.toArray ∧ fs.toList.mapM (fun f => (P.info? f.type).map fun i => (f.offset, i.size)) = some pl
def fillL (pl : List (Nat × Nat)) (zs : List Value) (ps : List (Nat × Value)) (out : List Value) : Prop := Instr.fill (pl.toArray[·]?) zs.toArray ps = some out.toArray
theorem fill_nil {pl : List (Nat × Nat)} {zs : List Value} : fillL pl zs [] zs := rfl
theorem fold_put (cs : List Value) : ∀ (off : Nat) (zs : List Value), off + cs.length ≤ zs.length → (cs.toArray.zipIdx.foldl (fun (a : Array Value) (p : Value × Nat) => a.setIfInBounds (off + p.2) p.1) zs.toArray) = (zs.take off ++ cs ++ zs.drop (off + cs.length)).toArray := by
  intro off zs h
  have key : ∀ (cs : List Value) (k : Nat) (zs : List Value), off + k + cs.length ≤ zs.length → ((cs.zipIdx k).foldl (fun (a : Array Value) (p : Value × Nat) => a.setIfInBounds (off + p.2) p.1) zs.toArray) = (zs.take (off + k) ++ cs ++ zs.drop (off + k + cs.length)).toArray := by
    intro cs
    induction cs with
    | nil => intro k zs h; simp
    | cons c cs ih =>
      intro k zs h
      simp only [List.length_cons] at h
      simp only [List.zipIdx_cons, List.foldl_cons]
      rw [show (zs.toArray.setIfInBounds (off + k) c) = (zs.set (off + k) c).toArray by simp, ih (k + 1) _ (by simp; omega)]
      have hlt : off + k < zs.length := by omega
      congr 1
      rw [show off + (k + 1) = off + k + 1 from by omega, List.take_succ_eq_append_getElem (by simp; omega), List.getElem_set_self, List.take_set_of_le (by omega), List.drop_set_of_lt (by omega)]
      simp [Nat.add_assoc, Nat.add_comm 1]
  have := key cs 0 zs (by simpa using h)
  simpa using this
theorem fill_put {pl : List (Nat × Nat)} {zs out cs : List Value} {i off : Nat} {x : Value} {rest : List (Nat × Value)} (hc : x.cells = cs.toArray) (hp : pl[i]? = some (off, cs.length)) (hl : off + cs.length ≤ zs.length)
    (k : fillL pl (zs.take off ++ cs ++ zs.drop (off + cs.length)) rest out) : fillL pl zs ((i, x) :: rest) out := by
  unfold fillL at k ⊢
  have hp' : pl.toArray[i]? = some (off, cs.length) := by simpa using hp
  simp only [Instr.fill, hp', hc]
  have h2 : ¬ ((cs.toArray.size ≠ cs.length || off + cs.toArray.size > zs.toArray.size) = true) := by simp; omega
  rw [if_neg h2]
  have := fold_put cs off zs hl
  rw [this]; exact k
theorem fill_one {pl : List (Nat × Nat)} {zs out : List Value} {i off : Nat} {x : Value} {rest : List (Nat × Value)} (hc : x.oneCell' = true) (hp : pl[i]? = some (off, 1)) (hl : Nat.blt off zs.length = true)
    (k : fillL pl (zs.take off ++ [x] ++ zs.drop (off + 1)) rest out) : fillL pl zs ((i, x) :: rest) out :=
  fill_put (cs := [x]) (cells_one hc) hp (Nat.le_of_ble_eq_true hl) k

theorem y_build {P : Program} {C : World → Prop} {E : List (Nat × Value)} {ty T : TypeId} {parts : Array (Nat × Operand)} {ps : List (Nat × Value)} {zs out : List Value} {pl : List (Nat × Nat)} (hB : BD P T zs pl) (hp : parts.toList.map (fun p => (p.1, ev E p.2)) = ps) (hf : fillL pl zs ps out) :
    Yields P C E (.build T parts) ty (.agg out.toArray) :=
  ⟨fun w _ d pos af g => by
    obtain ⟨it, fs, z, h1, h2, h3, h4, h5⟩ := hB
    have hb : P.built T (parts.map fun (i, x) => (i, ev E x)).toList = some out.toArray := by
      unfold Program.built
      simp only [h1, h2, h3, h5, h4]
      rw [Array.toList_map]
      unfold fillL at hf
      rw [← hp] at hf
      exact hf
    simp [execOp, run_build w T _ _ hb]⟩
end B
end Go.Proofs.YtebegkegkdmbjaaDoor
