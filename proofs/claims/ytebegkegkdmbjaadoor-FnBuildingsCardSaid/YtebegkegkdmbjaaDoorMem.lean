/-
  Slices whose elements are one cell each: what a slice value reads as (SV), a slice that the call itself made (OV), and the lemmas on the operations that read, write and make them.
-/
import Derived.Test.YtebegkegkdmbjaaDoorOps
namespace Go.Proofs.YtebegkegkdmbjaaDoor
namespace B
open Go.RowKit

/-- What was there is as it was. -/
def Ext (w w' : World) : Prop := Below w.heap.size w w'

theorem Ext.refl (w : World) : Ext w w := Below.refl _ _
theorem Ext.trans {a b c : World} (h : Ext a b) (k : Ext b c) : Ext a c := Below.trans h (Below.mono k h.size)
theorem Ext.alloc (w : World) (o : Obj) : Ext w (w.alloc o) := Below.alloc (Below.refl _ _) (Nat.le_refl _) o
theorem Ext.drew (w : World) : Ext w w.drew := Below.drew (Below.refl _ _)
theorem Ext.size {a b : World} (h : Ext a b) : a.heap.size ≤ b.heap.size := Below.size h
/-- Writes to a block that w has not. -/
theorem Ext.grown {w a b : World} {row : Option Nat} (h : Ext w a) (hg : a.grownBy b row) (hr : ∀ k, row = some k → w.heap.size ≤ k) : Ext w b := Below.grown h hg h.size hr
theorem Ext.block {a b : World} (h : Ext a b) {k : Nat} {o : Obj} (hk : a.heap[k]? = some o) : b.heap[k]? = some o := by
  have := (Array.getElem?_eq_some_iff.1 hk).1
  rw [Below.block h k this]; exact hk

theorem grown_none {a b : World} (hg : a.grownBy b none) : Ext a b := Ext.grown (Ext.refl a) hg (fun _ h => by cases h)

/-- The slice value v reads as the cells vs. -/
def SV (w : World) (v : Value) (vs : List Value) : Prop :=
  (∃ ao cap, v = .slice ao 0 cap ∧ vs = [] ∧ (ao = none → cap = 0) ∧ cap ≤ 9223372036854775807) ∨
  (∃ b off cap cur e fz, v = .slice (some ⟨b, off, none⟩) vs.length cap ∧ 0 < vs.length ∧ vs.length ≤ cap ∧ cap ≤ 9223372036854775807 ∧ w.heap[b]? = some (.cells cur e fz) ∧ ∀ j, j < vs.length → cur[off + j]? = vs[j]?)

theorem SV.nil (w : World) : SV w (.slice none 0 0) [] := .inl ⟨none, 0, rfl, rfl, fun _ => rfl, by omega⟩

theorem SV.le {w : World} {v : Value} {vs : List Value} (h : SV w v vs) : vs.length ≤ 9223372036854775807 := by
  rcases h with ⟨_, _, _, rfl, _⟩ | ⟨_, _, _, _, _, _, _, _, h1, h2, _⟩
  · simp
  · omega

theorem SV.shape {w : World} {v : Value} {vs : List Value} (h : SV w v vs) : ∃ ao cap, v = .slice ao vs.length cap ∧ vs.length ≤ cap ∧ cap ≤ 9223372036854775807 ∧ (ao = none → cap = 0) := by
  rcases h with ⟨ao, cap, rfl, rfl, h1, h2⟩ | ⟨b, off, cap, cur, e, fz, rfl, h0, h1, h2, _⟩
  · exact ⟨ao, cap, rfl, Nat.zero_le _, h2, h1⟩
  · exact ⟨_, cap, rfl, h1, h2, fun h => by cases h⟩

/-- It reads the same wherever its block is as it was. -/
theorem SV.keep {w w' : World} {v : Value} {vs : List Value} (h : SV w v vs) (hb : ∀ b, v.ownBlock = some b → 0 < vs.length → w'.heap[b]? = w.heap[b]?) : SV w' v vs := by
  rcases h with h | ⟨b, off, cap, cur, e, fz, rfl, h0, h1, h2, h3, h4⟩
  · exact .inl h
  · exact .inr ⟨b, off, cap, cur, e, fz, rfl, h0, h1, h2, (hb b rfl h0).trans h3, h4⟩

theorem SV.lt {w : World} {v : Value} {vs : List Value} (h : SV w v vs) (h0 : 0 < vs.length) : ∀ b, v.ownBlock = some b → b < w.heap.size := by
  intro b hb
  rcases h with ⟨_, _, _, rfl, _⟩ | ⟨b', off, cap, cur, e, fz, rfl, _, h1, h2, h3, h4⟩
  · simp at h0
  · simp only [Value.ownBlock, Option.some.injEq] at hb
    subst hb
    exact (Array.getElem?_eq_some_iff.1 h3).1

theorem SV.ext {w w' : World} {v : Value} {vs : List Value} (h : SV w v vs) (he : Ext w w') : SV w' v vs :=
  h.keep fun b hb h0 => Below.block he b (h.lt h0 b hb)

/-- Writes to another block. -/
theorem SV.grown {w w' : World} {v : Value} {vs : List Value} {row : Option Nat} (h : SV w v vs) (hg : w.grownBy w' row) (hne : v.ownBlock ≠ row ∨ row = none) : SV w' v vs :=
  h.keep fun b hb h0 => hg.block b (h.lt h0 b hb) (by
    rcases hne with hne | rfl
    · rw [← hb]; exact hne
    · simp)

/-- The slice value v is the call's own: it begins a row of block number from B on, not frozen, with elements of type e. -/
def OV (w : World) (B : Nat) (e : TypeId) (v : Value) (vs : List Value) : Prop := w.ownsRow B e 1 v vs.length vs

theorem OV.sv {w : World} {B e : Nat} {v : Value} {vs : List Value} (h : OV w B e v vs) : SV w v vs := by
  rcases h.2 with ⟨rfl, h0⟩ | ⟨g, cap, cur, rfl, hb, hg, h1, h2, h3, h4⟩
  · have : vs = [] := List.eq_nil_of_length_eq_zero h0
    subst this
    exact SV.nil w
  · have h2' : cap ≤ 9223372036854775807 := h2
    by_cases h0 : vs.length = 0
    · have : vs = [] := List.eq_nil_of_length_eq_zero h0
      subst this
      exact .inl ⟨_, cap, rfl, rfl, fun h => by (cases h), h2'⟩
    · refine .inr ⟨g, 0, cap, cur, e, (0, 0), rfl, by omega, h1, h2', hg, fun j hj => ?_⟩
      have : (cur.toList.take (vs.length * 1))[j]? = vs[j]? := by rw [h4]
      rw [List.getElem?_take, if_pos (by omega)] at this
      simpa using this

theorem OV.ext {w w' : World} {B e : Nat} {v : Value} {vs : List Value} (h : OV w B e v vs) (he : Ext w w') : OV w' B e v vs := by
  refine ⟨h.1, ?_⟩
  rcases h.2 with h2 | ⟨g, cap, cur, rfl, hb, hg, r⟩
  · exact .inl h2
  · exact .inr ⟨g, cap, cur, rfl, hb, he.block hg, r⟩

theorem OV.grown {w w' : World} {B e : Nat} {v : Value} {vs : List Value} {row : Option Nat} (h : OV w B e v vs) (hg : w.grownBy w' row) (hne : v.ownBlock ≠ row ∨ row = none) : OV w' B e v vs := by
  refine World.ownsRow.kept h hg ?_
  rcases hne with h1 | rfl
  · exact .inr h1
  · cases hv : v.ownBlock with
    | none => exact .inl rfl
    | some k => exact .inr (by simp)

theorem OV.lt {w : World} {B e : Nat} {v : Value} {vs : List Value} (h : OV w B e v vs) : ∀ b, v.ownBlock = some b → B ≤ b ∧ b < w.heap.size := fun b hb => World.ownsRow.lt h b hb

theorem OV.mono {w : World} {B B' e : Nat} {v : Value} {vs : List Value} (h : OV w B e v vs) (hB : B' ≤ B) : OV w B' e v vs := by
  refine ⟨h.1, ?_⟩
  rcases h.2 with h2 | ⟨g, cap, cur, rfl, hb, r⟩
  · exact .inl h2
  · exact .inr ⟨g, cap, cur, rfl, by omega, r⟩

theorem OV.nil (w : World) (B e : Nat) : OV w B e (.slice none 0 0) [] := World.ownsRow_nil _ _ _ _

/-- The row of the program's table for a slice type T with elements e of one cell. -/
structure SliceT (P : Program) (T e : TypeId) (z : Value) (bytes : Nat) : Prop where
  und : P.underlying T = some (.slice e)
  inf : ∃ i, P.info? e = some i ∧ i.zero = some z ∧ i.size = 1 ∧ i.bytes = bytes
  zone : z.cells = #[z]

/-- A type whose values are one cell, no struct and no array. -/
def ScalarT (P : Program) (T : TypeId) : Prop := ∀ w, (isAgg T).run P w = .ok false w

@[irreducible] def vptr (v : Value) (k : Nat) : Value := match v with | .slice (some a) _ _ => .pointer (some (a.add k)) | _ => undef

theorem vptr_some (b off n c k : Nat) : vptr (.slice (some ⟨b, off, none⟩) n c) k = .pointer (some ⟨b, off + k, none⟩) := by
  unfold vptr; simp [Addr.add_lit]

theorem SV.cell {w : World} {v : Value} {vs : List Value} {k : Nat} {x : Value} (h : SV w v vs) (hk : vs[k]? = some x) : ∃ ad, vptr v k = .pointer (some ad) ∧ w.cell? ad = some x := by
  have hlt : k < vs.length := (List.getElem?_eq_some_iff.1 hk).1
  rcases h with ⟨_, _, _, rfl, _⟩ | ⟨b, off, cap, cur, e', fz, rfl, h0, h1, h2, h3, h4⟩
  · simp at hlt
  · exact ⟨_, vptr_some _ _ _ _ _, by rw [cell_of_row w b (off + k) cur e' fz h3, h4 k hlt, hk]⟩

section
variable {P : Program} {C : World → Prop} {E : List (Nat × Value)} {ty : TypeId} {T e : TypeId} {z v : Value} {bytes : Nat} {vs : List Value}

theorem SliceT.size (hT : SliceT P T e z bytes) (w : World) : (sizeOf e).run P w = .ok 1 w := by
  obtain ⟨i, hi, _, hs, _⟩ := hT.inf
  simp [sizeOf, typeInfo, hi, hs]

theorem y_len {x : Operand} {m : Nat} (hT : SliceT P T e z bytes) {w0 : World} (hv : SV w0 v vs) (hm : vs.length = m) (hx : ev E x = v) : Yields P C E (.call ⟨.builtin .len, #[x], #[T]⟩) ty (.int .i64 m) :=
  ⟨fun w _ d pos af g => by
    subst hm
    obtain ⟨ao, cap, rfl, _⟩ := hv.shape
    simp [execOp, resolve, invoke, builtin, Builtin.len_, hx, run_underlying hT.und, goInt]⟩

theorem y_ixa {x ix : Operand} {k : Nat} {kk : IntKind} (hT : SliceT P T e z bytes) (hv : ∀ w, C w → SV w v vs) (hk : k < vs.length) (hx : ev E x = v) (hi : ev E ix = .int kk k) :
    Yields P C E (.indexAddr T x ix) ty (vptr v k) :=
  ⟨fun w hw d pos af g => by
    rcases hv w hw with ⟨_, _, _, rfl, _⟩ | ⟨b, off, cap, cur, e', fz, rfl, h0, h1, h2, h3, h4⟩
    · simp at hk
    · have h5 : (0 : Int) ≤ (k : Int) ∧ (k : Int) < (vs.length : Int) := ⟨by omega, by omega⟩
      simp only [execOp, Instr.indexAt, hx, hi, asIntOf, Sem.run_bind, Sem.run_pure, Result.andThen_ok, run_underlying hT.und, if_pos h5, hT.size, Int.toNat_natCast, Nat.mul_one, vptr_some, Addr.add_lit]⟩

/-- The same with an index that is an integer. -/
theorem y_ixi {x ix : Operand} {i : Int} {kk : IntKind} (hT : SliceT P T e z bytes) (hv : ∀ w, C w → SV w v vs) (h0 : 0 ≤ i) (h1 : i < vs.length) (hx : ev E x = v) (hi : ev E ix = .int kk i) :
    Yields P C E (.indexAddr T x ix) ty (vptr v i.toNat) := by
  refine y_ixa (k := i.toNat) (kk := kk) hT hv (by omega) hx ?_
  rw [hi, show ((i.toNat : Nat) : Int) = i from by omega]

theorem y_load {p : Operand} {k : Nat} {x : Value} (hS : ScalarT P T) (hv : ∀ w, C w → SV w v vs) (hk : vs[k]? = some x) (hp : ev E p = vptr v k) : Yields P C E (.load T p) ty x :=
  ⟨fun w hw d pos af g => by
    obtain ⟨ad, h1, h2⟩ := (hv w hw).cell hk
    simp [execOp, Instr.loadAt, hp, h1, Instr.sureAddr, loadVar, hS w, h2]⟩

/-- A load from a known cell. -/
theorem y_loadc {p : Operand} {ad : Addr} {x : Value} (hS : ScalarT P T) (hc : ∀ w, C w → w.cell? ad = some x) (hp : ev E p = .pointer (some ad)) : Yields P C E (.load T p) ty x :=
  ⟨fun w hw d pos af g => by simp [execOp, Instr.loadAt, hp, Instr.sureAddr, loadVar, hS w, hc w hw]⟩

theorem CW.quietE {ops : List Oper} {Q : Exit → Act → World → Prop} {n id : Nat} {w : World} (hm : P.follows .mixedOrders = true) (hB : Region.lexB .any ops.toArray = true) (k : QL P ops.toArray (Ext w) Q ops n E) :
    CW P Q (.region id ops.toArray true) n E w := CW.quiet (Ext w) hm hB (Ext.drew w) k

theorem y_nil {p : Operand} {ad : Addr} (hp : ev E p = .pointer (some ad)) : Yields P C E (.nilCheck p) ty (.pointer (some ad)) :=
  ⟨fun w _ d pos af g => by simp [execOp, hp]⟩
end

/-! ### Slices of int64 -/
def ints (xs : List Int) : List Value := xs.map (Value.int .i64)
theorem ints_len (xs : List Int) : (ints xs).length = xs.length := by simp [ints]
theorem ints_get {xs : List Int} {k : Nat} {x : Int} (h : xs[k]? = some x) : (ints xs)[k]? = some (.int .i64 x) := by simp [ints, h]
theorem ints_lt {xs : List Int} {k : Nat} (h : k < xs.length) : k < (ints xs).length := by rw [ints_len]; exact h
theorem ints_at {xs : List Int} {k : Nat} (h : k < xs.length) : (ints xs)[k]? = some (.int .i64 xs[k]) := ints_get (List.getElem?_eq_getElem h)
theorem ints_one (xs : List Int) : ∀ x ∈ ints xs, x.oneCell' = true := by
  intro x hx; obtain ⟨_, _, rfl⟩ := List.mem_map.1 hx; rfl
theorem ints_set (xs : List Int) (k : Nat) (x : Int) : (ints xs).set k (.int .i64 x) = ints (xs.set k x) := by simp [ints, List.map_set]
theorem ints_app (xs ys : List Int) : ints xs ++ ints ys = ints (xs ++ ys) := by simp [ints]
theorem ints_rep (n : Nat) : List.replicate n (Value.int .i64 0) = ints (List.replicate n 0) := by simp [ints]
abbrev SI (w : World) (v : Value) (xs : List Int) : Prop := SV w v (ints xs)
/-- The length of a slice that can be read fits an int. -/
theorem SI.le {w : World} {v : Value} {xs : List Int} (h : SI w v xs) : xs.length ≤ 9223372036854775807 := by have := SV.le h; rwa [ints_len] at this

/-! ### Slices of bool -/
def bools (xs : List Bool) : List Value := xs.map Value.bool
theorem bools_len (xs : List Bool) : (bools xs).length = xs.length := by simp [bools]
theorem bools_get {xs : List Bool} {k : Nat} {x : Bool} (h : xs[k]? = some x) : (bools xs)[k]? = some (.bool x) := by simp [bools, h]
theorem bools_lt {xs : List Bool} {k : Nat} (h : k < xs.length) : k < (bools xs).length := by rw [bools_len]; exact h
theorem bools_at {xs : List Bool} {k : Nat} (h : k < xs.length) : (bools xs)[k]? = some (.bool xs[k]) := bools_get (List.getElem?_eq_getElem h)
theorem bools_one (xs : List Bool) : ∀ x ∈ bools xs, x.oneCell' = true := by
  intro x hx; obtain ⟨_, _, rfl⟩ := List.mem_map.1 hx; rfl
theorem bools_set (xs : List Bool) (k : Nat) (x : Bool) : (bools xs).set k (.bool x) = bools (xs.set k x) := by simp [bools, List.map_set]
theorem bools_app (xs ys : List Bool) : bools xs ++ bools ys = bools (xs ++ ys) := by simp [bools]
theorem bools_rep (n : Nat) : List.replicate n (Value.bool false) = bools (List.replicate n false) := by simp [bools]
abbrev SB (w : World) (v : Value) (xs : List Bool) : Prop := SV w v (bools xs)

/-! ### Slices of bytes -/
def byts (l : List UInt8) : List Value := l.map fun c => Value.int .u8 c.toNat
theorem bytes_len (l : List UInt8) : (byts l).length = l.length := by simp [byts]
theorem bytes_get {l : List UInt8} {k : Nat} {x : UInt8} (h : l[k]? = some x) : (byts l)[k]? = some (.int .u8 x.toNat) := by simp [byts, h]
theorem bytes_lt {l : List UInt8} {k : Nat} (h : k < l.length) : k < (byts l).length := by rw [bytes_len]; exact h
theorem bytes_at {l : List UInt8} {k : Nat} (h : k < l.length) : (byts l)[k]? = some (.int .u8 l[k].toNat) := bytes_get (List.getElem?_eq_getElem h)
theorem bytes_app (l m : List UInt8) : byts l ++ byts m = byts (l ++ m) := by simp [byts]

theorem fold_push : ∀ (l : List UInt8) (s : ByteArray), (l.map (fun c : UInt8 => (c.toNat : Int))).foldl (fun r n => r.push (UInt8.ofNat n.toNat)) s = s ++ ⟨l.toArray⟩
  | [], s => by simp only [List.map_nil, List.foldl_nil]; apply ByteArray.ext; simp
  | c :: l, s => by
    simp only [List.map_cons, List.foldl_cons]
    rw [fold_push l]
    apply ByteArray.ext
    simp

/-- string(b) -/
theorem y_b2s {P : Program} {C : World → Prop} {E : List (Nat × Value)} {ty T U e : TypeId} {v : Value} {x : Operand} {l : List UInt8} (hT : P.underlying T = some (.slice e)) (he : P.underlying e = some (.int .u8)) (hU : P.underlying U = some .string)
    (hv : ∀ w, C w → SV w v (byts l)) (hx : ev E x = v) : Yields P C E (.convert T U x) ty (.string ⟨l.toArray⟩) :=
  ⟨fun w hw d pos af g => by
    have hsv := hv w hw
    obtain ⟨ao, cap, rfl, _, _, hn⟩ := hsv.shape
    have key : (convert T U (.slice ao (byts l).length cap)).run P w = .ok (.string ⟨l.toArray⟩) w := by
      rw [run_convert_bytes_string w T U e ao _ cap hT he hU]
      cases ao with
      | none =>
        obtain rfl : cap = 0 := hn rfl
        have : l = [] := by
          have := (hsv.shape)
          obtain ⟨_, _, _, h1, _, h2⟩ := this
          rcases hsv with ⟨_, _, _, h0, _⟩ | ⟨_, _, _, _, _, _, h0, _⟩
          · simpa [byts] using h0
          · cases h0
        subst this
        rfl
      | some a =>
        have hc : (loadCells a (byts l).length).run P w = .ok ((l.map (fun c : UInt8 => (c.toNat : Int))).map (Value.int .u8)).toArray w := by
          have := run_loadCells_list (P := P) w a (byts l) (fun j u hu => by
            obtain ⟨ad, h1, h2⟩ := hsv.cell hu
            have : vptr (.slice (some a) (byts l).length cap) j = .pointer (some (a.add j)) := by unfold vptr; rfl
            rw [this] at h1
            simp only [Value.pointer.injEq, Option.some.injEq] at h1
            rw [h1]; exact h2)
          rw [this]
          simp [byts]
        rw [run_bytesToString w a _ cap _ hc, fold_push]
        congr 2
    simp [execOp, hx, key]⟩

/-- One more cell of a row that is being filled. -/
theorem fill_step {α : Type} [Inhabited α] {xs : List α} {z : α} {k : Nat} (h : k < xs.length) : (xs.take k ++ List.replicate (xs.length - k) z).set k xs[k] = xs.take (k + 1) ++ List.replicate (xs.length - (k + 1)) z := by
  have e : xs.length - k = (xs.length - (k + 1)) + 1 := by omega
  rw [e, List.replicate_succ, List.set_append_right _ _ (by simp; omega)]
  have : k - (xs.take k).length = 0 := by simp; omega
  rw [this, List.set_cons_zero, List.take_succ_eq_append_getElem h, List.append_assoc]
  rfl

section
variable {P : Program} {ops : Array Oper} {Q : Exit → Act → World → Prop} {rest : List Oper} {n : Nat} {E : List (Nat × Value)} {w : World} {ty : TypeId} {pos : String} {af : Array Edge}
variable {T e : TypeId} {z v : Value} {bytes : Nat} {vs : List Value}

theorem storeVar_one {t : TypeId} {x : Value} {ad : Addr} {u : Value} (hs : (sizeOf t).run P w = .ok 1 w) (h1 : x.oneCell' = true) (hc : w.cell? ad = some u) (hf : w.frozen? ad = false) :
    (storeVar t ad x).run P w = .ok () (w.setCell ad x) := by
  have hcs : x.cells = #[x] := by cases x <;> simp_all [Value.cells, Value.oneCell']
  simp only [storeVar, Sem.run_bind, hs, Result.andThen_ok, hcs]
  simp only [List.size_toArray, List.length_cons, List.length_nil, Nat.zero_add, ne_eq, not_true_eq_false, if_false]
  have : storeCells ad [x] = (do store ad x; pure ()) := by
    simp [storeCells, Addr.add]
  simp only [Sem.run_bind, Sem.run_pure, this]
  cases x <;> simp_all [store, Sem.run, Value.oneCell']

theorem OV.stored {B : Nat} {k : Nat} {x : Value} (h : OV w B e v vs) (hk : k < vs.length) :
    ∃ ad, vptr v k = .pointer (some ad) ∧ w.cell? ad = vs[k]? ∧ w.frozen? ad = false ∧ OV (w.setCell ad x) B e v (vs.set k x) ∧ w.grownBy (w.setCell ad x) v.ownBlock := by
  rcases h.2 with ⟨rfl, h0⟩ | ⟨g, cap, cur, rfl, hb, hg, r⟩
  · omega
  · have hs := World.ownsRow.stored (w := w) (g := g) (cap := cap) h k x
    refine ⟨⟨g, k, none⟩, by rw [vptr_some, Nat.zero_add], World.ownsRow.cellAt h k (by omega), World.ownsRow.frozenAt h k, ?_, hs.2⟩
    unfold OV
    rw [List.length_set]
    exact hs.1

theorem RL.store {B : Nat} {k : Nat} {x : Value} {p xo : Operand} (hT : SliceT P T e z bytes) (ho : OV w B e v vs) (hk : k < vs.length) (hp : ev E p = vptr v k) (hx : ev E xo = x) (h1 : x.oneCell' = true)
    (k' : ∀ w', OV w' B e v (vs.set k x) → w.grownBy w' v.ownBlock → RL P ops Q rest n E w') : RL P ops Q (⟨none, .store e p xo, ty, pos, af, none⟩ :: rest) n E w := by
  obtain ⟨ad, h2, h3, h4, h5, h6⟩ := ho.stored (x := x) hk
  refine RL.skip (w' := w.setCell ad x) ?_ (k' _ h5 h6)
  have h3' : w.cell? ad = some vs[k] := by rw [h3]; exact List.getElem?_eq_getElem hk
  simp [execOp, Instr.storeAt, hp, h2, hx, Instr.sureAddr, storeVar_one (hT.size w) h1 h3' h4]

/-- A store into a known cell. -/
theorem RL.storec {t : TypeId} {ad : Addr} {x u : Value} {p xo : Operand} (hs : (sizeOf t).run P w = .ok 1 w) (hc : w.cell? ad = some u) (hf : w.frozen? ad = false) (hp : ev E p = .pointer (some ad)) (hx : ev E xo = x) (h1 : x.oneCell' = true)
    (k' : RL P ops Q rest n E (w.setCell ad x)) : RL P ops Q (⟨none, .store t p xo, ty, pos, af, none⟩ :: rest) n E w := by
  refine RL.skip (w' := w.setCell ad x) ?_ k'
  simp [execOp, Instr.storeAt, hp, hx, Instr.sureAddr, storeVar_one hs h1 hc hf]

/-- make([]T, n) -/
theorem RL.make {d : Nat} {l : Operand} {m : Nat} {kk : IntKind} (hd : Nat.blt d n = true) (hT : SliceT P T e z bytes) (hb : bytes * m ≤ 281474976710656) (hm : m ≤ 9223372036854775807) (hl : ev E l = .int kk m)
    (k : ∀ v w', OV w' w.heap.size e v (List.replicate m z) → Ext w w' → v.ownBlock = some w.heap.size → RL P ops Q rest n ((d, v) :: E) w') : RL P ops Q (⟨some d, .makeSlice T l l, ty, pos, af, none⟩ :: rest) n E w := by
  obtain ⟨i, hi, hz, hs, hby⟩ := hT.inf
  obtain ⟨w', hr, ho, hg⟩ := run_make_full (P := P) w w.heap.size T e i z 1 hT.und hi hz hs kk kk m (by rw [hby]; exact hb) hm (Nat.le_refl _)
  refine RL.val hd (v := .slice (some ⟨w.heap.size, 0, none⟩) m m) (w' := w') ?_ (k _ _ ?_ (grown_none hg) rfl)
  · simp [execOp, hl, hr]
  · unfold OV
    rw [hT.zone, Nat.mul_one, toList_madeCells_one] at ho
    simpa using ho

/-- A slice of known elements: a new row. -/
theorem OV.made (w : World) (vs : List Value) (hv : vs.length ≤ 9223372036854775807) : OV (w.alloc (.cells vs.toArray e)) w.heap.size e (.slice (some ⟨w.heap.size, 0, none⟩) vs.length vs.length) vs := by
  have := World.ownsRow_lit (base := w.heap.size) (e := e) (size := 1) w vs.toArray vs.length (Nat.le_refl _) hv (by simp)
  simpa [OV] using this

theorem RL.lit0 {d : Nat} (hd : Nat.blt d n = true) (hT : SliceT P T e z bytes)
    (k : ∀ v w', OV w' w.heap.size e v [] → Ext w w' → v.ownBlock = some w.heap.size → RL P ops Q rest n ((d, v) :: E) w') : RL P ops Q (⟨some d, .buildSlice T 0 #[], ty, pos, af, none⟩ :: rest) n E w := by
  refine RL.val hd (v := .slice (some ⟨w.heap.size, 0, none⟩) 0 0) (w' := w.alloc (.cells #[] e)) ?_ (k _ _ (OV.made (e := e) w [] (by simp)) (Ext.alloc _ _) rfl)
  simp [execOp, Instr.buildSlice, run_underlying hT.und, hT.size, Instr.fill, newRow, Array.range_zero']

def enumP : Nat → List Value → List (Nat × Value)
  | _, [] => []
  | k, x :: xs => (k, x) :: enumP (k + 1) xs

theorem cells_one {x : Value} (h1 : x.oneCell' = true) : x.cells = #[x] := by cases x <;> simp_all [Value.cells, Value.oneCell']

theorem fill_enum {z : Value} : ∀ (xs done : List Value), (∀ x ∈ xs, x.oneCell' = true) →
    Instr.fill (fun i => some (i, 1)) (done ++ List.replicate xs.length z).toArray (enumP done.length xs) = some (done ++ xs).toArray
  | [], done, _ => by simp [enumP, Instr.fill]
  | x :: xs, done, h => by
    have h1 := cells_one (h x (by simp))
    have ih := fill_enum (z := z) xs (done ++ [x]) (fun y hy => h y (by simp [hy]))
    simp only [List.length_append, List.length_cons, List.length_nil, Nat.zero_add, List.append_assoc, List.cons_append, List.nil_append] at ih
    simp only [enumP, Instr.fill, h1]
    have hc : ¬ ((#[x].size ≠ 1 || done.length + #[x].size > (done ++ List.replicate (x :: xs).length z).toArray.size) = true) := by simp
    rw [if_neg hc]
    have e : Array.foldl (fun cs (p : Value × Nat) => cs.setIfInBounds (done.length + p.2) p.1) (done ++ List.replicate (x :: xs).length z).toArray (#[x].zipIdx) = (done ++ x :: List.replicate xs.length z).toArray := by
      simp [Array.zipIdx, List.replicate_succ]
    rw [show (Array.foldl (fun cs x => match x with | (c, j) => cs.setIfInBounds (done.length + j) c) (done ++ List.replicate (x :: xs).length z).toArray (#[x].zipIdx)) = (done ++ x :: List.replicate xs.length z).toArray from e]
    exact ih

theorem made_one (z : Value) (m : Nat) : Array.map (fun x => #[z][x % #[z].size]!) (Array.range m) = (List.replicate m z).toArray := by
  have h := toList_madeCells_one z m
  unfold madeCells at h
  apply Array.toList_inj.1
  simpa using h

/-- A slice literal. -/
theorem RL.lits {d m : Nat} {parts : Array (Nat × Operand)} (xs : List Value) (hd : Nat.blt d n = true) (hT : SliceT P T e z bytes) (hm : xs.length = m) (hs : m ≤ 1000) (h1 : ∀ x ∈ xs, x.oneCell' = true)
    (hp : parts.toList.map (fun p => (p.1, ev E p.2)) = enumP 0 xs)
    (k : ∀ v w', OV w' w.heap.size e v xs → Ext w w' → v.ownBlock = some w.heap.size → RL P ops Q rest n ((d, v) :: E) w') : RL P ops Q (⟨some d, .buildSlice T m parts, ty, pos, af, none⟩ :: rest) n E w := by
  obtain ⟨i, hi, hz, hsz, hby⟩ := hT.inf
  subst hm
  refine RL.val hd (v := .slice (some ⟨w.heap.size, 0, none⟩) xs.length xs.length) (w' := w.alloc (.cells xs.toArray e)) ?_ (k _ _ (OV.made (e := e) w xs (by omega)) (Ext.alloc _ _) rfl)
  have hf := fill_enum (z := z) xs [] h1
  simp only [List.nil_append, List.length_nil] at hf
  by_cases h0 : xs.length = 0
  · have hx0 : xs = [] := List.eq_nil_of_length_eq_zero h0
    subst hx0
    simp [execOp, Instr.buildSlice, run_underlying hT.und, hT.size, hp, enumP, Instr.fill, newRow, Array.range_zero']
  · have hlim : ¬ (16777216 < xs.length) := by omega
    have hmk := made_one z xs.length
    simp only [execOp, Instr.buildSlice, Sem.run_bind, run_underlying hT.und, hT.size, Result.andThen_ok, Nat.mul_one, gt_iff_lt, Nat.reducePow, Sem.run_ite, if_neg hlim, if_neg h0, zeroValue, typeInfo, program, Sem.run_pure]
    simp only [Array.toList_map, hp]
    simp [Sem.run, hi, hz, hT.zone, newRow, newObj]
    simp at hmk hf
    simp [hmk, hf, Sem.run]

theorem RL.lit1 {d : Nat} {x : Value} {xo : Operand} (hd : Nat.blt d n = true) (hT : SliceT P T e z bytes) (h1 : x.oneCell' = true) (hx : ev E xo = x)
    (k : ∀ v w', OV w' w.heap.size e v [x] → Ext w w' → v.ownBlock = some w.heap.size → RL P ops Q rest n ((d, v) :: E) w') : RL P ops Q (⟨some d, .buildSlice T 1 #[(0, xo)], ty, pos, af, none⟩ :: rest) n E w :=
  RL.lits [x] hd hT rfl (by omega) (by simpa using h1) (by simp [enumP, hx]) k

theorem RL.lit2 {d : Nat} {x y : Value} {xo yo : Operand} (hd : Nat.blt d n = true) (hT : SliceT P T e z bytes) (h1 : x.oneCell' = true) (h2 : y.oneCell' = true) (hx : ev E xo = x) (hy : ev E yo = y)
    (k : ∀ v w', OV w' w.heap.size e v [x, y] → Ext w w' → v.ownBlock = some w.heap.size → RL P ops Q rest n ((d, v) :: E) w') : RL P ops Q (⟨some d, .buildSlice T 2 #[(0, xo), (1, yo)], ty, pos, af, none⟩ :: rest) n E w :=
  RL.lits [x, y] hd hT rfl (by omega) (by simp [h1, h2]) (by simp [enumP, hx, hy]) k

/-- append of a slice that reads as us onto one of the call's own. Where the row turns, it is a new one. -/
theorem run_append_new (hT : SliceT P T e z bytes) {B : Nat} {us : List Value} {u : Value} (ho : OV w B e v vs) (hu : SV w u us) (h1 : ∀ x ∈ us, x.oneCell' = true)
    (h63 : vs.length + us.length ≤ 9223372036854775807) (hby : (vs.length + us.length) * bytes ≤ 140737488355328) (hB : B ≤ w.heap.size) :
    ∃ v' w', (Builtin.append_ #[T, T] ty #[v, u]).run P w = .ok v' w' ∧ OV w' B e v' (vs ++ us) ∧ w.grownBy w' v.ownBlock ∧ (v'.ownBlock = v.ownBlock ∨ v'.ownBlock = some w.heap.size) := by
  obtain ⟨i, hi, hz, hs, hb⟩ := hT.inf
  obtain ⟨ao, c, hue, hc, -, hnone⟩ := hu.shape
  have hlen : (vs ++ us).length = vs.length + us.length := List.length_append
  cases ao with
  | none =>
    obtain rfl : c = 0 := hnone rfl
    have h0 : us = [] := List.eq_nil_of_length_eq_zero (by omega)
    subst h0
    refine ⟨v, w, ?_, by simpa using ho, World.grownBy.refl _ _, .inl rfl⟩
    rw [hue]
    exact run_append_owned_none (P := P) w B T ty e i 1 hT.und hi v vs.length vs ho
  | some a =>
    have hl : us.length = us.length * 1 := (Nat.mul_one _).symm
    have hcell : ∀ j x, us[j]? = some x → w.cell? (a.add j) = some x := by
      intro j x hx
      obtain ⟨ad, h2, h3⟩ := hu.cell hx
      have hj : j < us.length := (List.getElem?_eq_some_iff.1 hx).1
      rw [hue] at h2
      have : vptr (.slice (some a) us.length c) j = .pointer (some (a.add j)) := by unfold vptr; rfl
      rw [this] at h2
      simp only [Value.pointer.injEq, Option.some.injEq] at h2
      rw [h2]; exact h3
    rw [hue]
    have own := run_append_own (P := P) w B T ty e i z 1 bytes hT.und hi hz hs hb (by rw [hT.zone]; rfl) (by omega) v vs.length vs ho a us.length c us hl hcell h1 h63 hby hB
    obtain ⟨v', w', hr, h2, h3, h4⟩ := own
    refine ⟨v', w', hr, by unfold OV; rw [hlen]; exact h2, h3, ?_⟩
    -- which row it is
    rcases ho.2 with ⟨rfl, h0⟩ | ⟨g, cap, cur, rfl, hbg, hg, hnc, hcm, hcs, htake⟩
    · by_cases hm : us.length = 0
      · left
        rw [(h4.2 ⟨rfl, hm⟩)]
      · right
        have hv0 : vs = [] := List.eq_nil_of_length_eq_zero h0
        subst hv0
        have hr2 := run_append_nil (P := P) w T ty e i z hT.und hi hz a us.length c us (by rw [hs]; omega) hcell (by omega) (by omega) (by rw [hb]; simp at hby; omega)
        rw [hr2] at hr
        simp only [Result.ok.injEq] at hr
        rw [← hr.1]; rfl
    · by_cases hroom : vs.length + us.length ≤ cap
      · left
        have hr2 := run_append_room (P := P) w T ty e i hT.und hi g vs.length cap cur hg a us.length c us (by rw [hs]; omega) hcell h1 hroom (by rw [hs, hcs]; omega)
        rw [hr2] at hr
        simp only [Result.ok.injEq] at hr
        rw [← hr.1]; rfl
      · right
        have holds : ∀ j x, vs[j]? = some x → w.cell? ((⟨g, 0, none⟩ : Addr).add j) = some x := World.ownsRow.cells (g := g) ho rfl
        have hr2 := run_append_grow (P := P) w T ty e i z hT.und hi hz ⟨g, 0, none⟩ vs.length cap vs (by rw [hs]; omega) holds a us.length c us (by rw [hs]; omega) hcell (by omega) (by omega) (by rw [hb]; exact growslice_fits (by omega) hby)
        rw [hr2] at hr
        simp only [Result.ok.injEq] at hr
        rw [← hr.1]; rfl

theorem RL.app {d B : Nat} {s x : Operand} {us : List Value} {u : Value} (hd : Nat.blt d n = true) (hT : SliceT P T e z bytes) (ho : OV w B e v vs) (hu : SV w u us) (h1 : ∀ x ∈ us, x.oneCell' = true)
    (h63 : vs.length + us.length ≤ 9223372036854775807) (hby : (vs.length + us.length) * bytes ≤ 140737488355328) (hB : B ≤ w.heap.size) (hs : ev E s = v) (hx : ev E x = u)
    (k : ∀ v' w', OV w' B e v' (vs ++ us) → w.grownBy w' v.ownBlock → (v'.ownBlock = v.ownBlock ∨ v'.ownBlock = some w.heap.size) → RL P ops Q rest n ((d, v') :: E) w') :
    RL P ops Q (⟨some d, .call ⟨.builtin .append, #[s, x], #[T, T]⟩, ty, pos, af, none⟩ :: rest) n E w := by
  obtain ⟨v', w', hr, h2, h3, h4⟩ := run_append_new (ty := ty) hT ho hu h1 h63 hby hB
  refine RL.val hd (v := v') (w' := w') ?_ (k v' w' h2 h3 h4)
  simp [execOp, resolve, invoke, builtin, hs, hx, hr]

/-- append(s, x): the one-element slice, and the append. -/
theorem RL.app1 {d1 d2 B : Nat} {s xo : Operand} {x : Value} {ty2 : TypeId} {pos2 : String} {af2 : Array Edge} (hd1 : Nat.blt d1 n = true) (hd2 : Nat.blt d2 n = true) (hT : SliceT P T e z bytes) (hbt : bytes ≤ 128)
    (ho : OV w B e v vs) (hlen : vs.length + 1 ≤ 1099511627776) (hB : B ≤ w.heap.size) (hx : ev E xo = x) (h1 : x.oneCell' = true)
    (hs : ∀ u, ev ((d1, u) :: E) s = v)
    (k : ∀ u v' w', OV w' B e v' (vs ++ [x]) → w.grownBy w' v.ownBlock → (v'.ownBlock = v.ownBlock ∨ ∃ b, v'.ownBlock = some b ∧ w.heap.size ≤ b) → RL P ops Q rest n ((d2, v') :: (d1, u) :: E) w') :
    RL P ops Q (⟨some d1, .buildSlice T 1 #[(0, xo)], ty, pos, af, none⟩ :: ⟨some d2, .call ⟨.builtin .append, #[s, .tmp d1], #[T, T]⟩, ty2, pos2, af2, none⟩ :: rest) n E w := by
  refine RL.lit1 hd1 hT h1 hx (fun u w1 hu hE1 _ => ?_)
  have hsz := hE1.size
  refine RL.app hd2 hT (ho.ext hE1) hu.sv (by simpa using h1) (by simp; omega) ?_ (by omega) (hs u) ?_ (fun v' w' ho' hg' hn' => k u v' w' ho' ?_ ?_)
  · have : (vs.length + 1) * bytes ≤ 1099511627776 * 128 := Nat.mul_le_mul hlen hbt
    simp only [List.length_cons, List.length_nil, Nat.zero_add]
    omega
  · show lk ((d1, u) :: E) d1 = u
    simp [lk]
  · exact ⟨hg'.os.trans (Below.os hE1), hg'.tape.trans (Below.tape hE1), hg'.output.trans (Below.output hE1), Nat.le_trans hsz hg'.size, fun i hi hne => (hg'.block i (by omega) hne).trans (Below.block hE1 i hi)⟩
  · rcases hn' with h | h
    · exact .inl h
    · exact .inr ⟨_, h, hsz⟩

theorem RL.app1i {d1 d2 B : Nat} {s xo : Operand} {x : Int} {xs : List Int} {ty2 : TypeId} {pos2 : String} {af2 : Array Edge} (hd1 : Nat.blt d1 n = true) (hd2 : Nat.blt d2 n = true) (hT : SliceT P T e z bytes) (hbt : bytes ≤ 128)
    (ho : OV w B e v (ints xs)) (hlen : xs.length + 1 ≤ 1099511627776) (hB : B ≤ w.heap.size) (hx : ev E xo = .int .i64 x)
    (hs : ∀ u, ev ((d1, u) :: E) s = v)
    (k : ∀ u v' w', OV w' B e v' (ints (xs ++ [x])) → w.grownBy w' v.ownBlock → (v'.ownBlock = v.ownBlock ∨ ∃ b, v'.ownBlock = some b ∧ w.heap.size ≤ b) → RL P ops Q rest n ((d2, v') :: (d1, u) :: E) w') :
    RL P ops Q (⟨some d1, .buildSlice T 1 #[(0, xo)], ty, pos, af, none⟩ :: ⟨some d2, .call ⟨.builtin .append, #[s, .tmp d1], #[T, T]⟩, ty2, pos2, af2, none⟩ :: rest) n E w :=
  RL.app1 hd1 hd2 hT hbt ho (by rw [ints_len]; exact hlen) hB hx rfl hs (fun u v' w' ho' => k u v' w' (by rw [← ints_app]; exact ho'))
end
end B
end Go.Proofs.YtebegkegkdmbjaaDoor
