/-
  Who owns what: blocks from B up to U. What a law's helpers do to data that the law's calls have made.
-/
import Derived.Test.YtebegkegkdmbjaaDoorLists
namespace Go.Proofs.YtebegkegkdmbjaaDoor
namespace B
open Go.RowKit

/-- Of what was there, blocks from B up to U alone may have turned. -/
structure Mod (B U : Nat) (w w' : World) : Prop where
  os : w'.os = w.os
  tape : w'.tape = w.tape
  output : w'.output = w.output
  size : w.heap.size ≤ w'.heap.size
  block : ∀ k, k < w.heap.size → ¬ (B ≤ k ∧ k < U) → w'.heap[k]? = w.heap[k]?

theorem Ext.mod {w w' : World} (h : Ext w w') (B U : Nat) : Mod B U w w' := ⟨Below.os h, Below.tape h, Below.output h, Below.size h, fun k hk _ => Below.block h k hk⟩
theorem Mod.trans {B U : Nat} {a b c : World} (h : Mod B U a b) (k : Mod B U b c) : Mod B U a c :=
  ⟨k.os.trans h.os, k.tape.trans h.tape, k.output.trans h.output, Nat.le_trans h.size k.size, fun i hi hn => (k.block i (Nat.lt_of_lt_of_le hi h.size) hn).trans (h.block i hi hn)⟩
theorem Mod.refl (B U : Nat) (w : World) : Mod B U w w := (Ext.refl w).mod B U
theorem Mod.wide {B U B' U' : Nat} {a b : World} (h : Mod B U a b) (h1 : B' ≤ B) (h2 : U ≤ U') : Mod B' U' a b :=
  ⟨h.os, h.tape, h.output, h.size, fun k hk hn => h.block k hk (fun hh => hn ⟨by omega, by omega⟩)⟩
/-- What lay before the call is as it was. -/
theorem Ext.then_mod {w a b : World} {B U : Nat} (h : Ext w a) (k : Mod B U a b) (hB : w.heap.size ≤ B) : Ext w b :=
  ⟨k.os.trans (Below.os h), k.tape.trans (Below.tape h), k.output.trans (Below.output h), Nat.le_trans (Below.size h) k.size, fun i hi => (k.block i (Nat.lt_of_lt_of_le hi (Below.size h)) (fun hh => by omega)).trans (Below.block h i hi)⟩
theorem grown_mod {w w' : World} {row : Option Nat} {B U : Nat} (h : w.grownBy w' row) (hr : ∀ k, row = some k → B ≤ k ∧ k < U) : Mod B U w w' :=
  ⟨h.os, h.tape, h.output, h.size, fun k hk hn => h.block k hk (fun e => hn (hr k e.symm))⟩

theorem qc {P : Program} {f : Nat} {args : Array Value} {w0 w : World} {v : Value} (hC : Ext w0 w) (h : Does P f args w (fun u w' => u = v ∧ Ext w w')) : Does P f args w (fun u w' => u = v ∧ Ext w0 w') :=
  h.mono fun _ _ ⟨a, b⟩ => ⟨a, hC.trans b⟩
theorem qs {P : Program} {f : Nat} {args : Array Value} {w0 w : World} {v : Value} (hC : Ext w0 w) (h : Does P f args w (fun u w' => u = v ∧ w = w')) : Does P f args w (fun u w' => u = v ∧ Ext w0 w') :=
  h.mono fun _ _ ⟨a, b⟩ => ⟨a, b ▸ hC⟩

/-- A slice of the call's own whose block lies from B up to U. -/
def OU (w : World) (B U : Nat) (e : TypeId) (v : Value) (vs : List Value) : Prop := OV w B e v vs ∧ U ≤ w.heap.size ∧ ∀ b, v.ownBlock = some b → b < U

theorem OU.ov {w : World} {B U e : Nat} {v : Value} {vs : List Value} (h : OU w B U e v vs) : OV w B e v vs := h.1
theorem OU.sv {w : World} {B U e : Nat} {v : Value} {vs : List Value} (h : OU w B U e v vs) : SV w v vs := h.1.sv
theorem OU.lt {w : World} {B U e : Nat} {v : Value} {vs : List Value} (h : OU w B U e v vs) : ∀ b, v.ownBlock = some b → B ≤ b ∧ b < U := fun b hb => ⟨(h.1.lt b hb).1, h.2.2 b hb⟩
theorem OU.ext {w w' : World} {B U e : Nat} {v : Value} {vs : List Value} (h : OU w B U e v vs) (he : Ext w w') : OU w' B U e v vs := ⟨h.1.ext he, Nat.le_trans h.2.1 he.size, h.2.2⟩
theorem OU.of {w w' : World} {e : Nat} {v : Value} {vs : List Value} (h : OV w' w.heap.size e v vs) : OU w' w.heap.size w'.heap.size e v vs := ⟨h, Nat.le_refl _, fun b hb => (h.lt b hb).2⟩
theorem OU.mod {w w' : World} {B U B' U' e : Nat} {v : Value} {vs : List Value} (h : OU w B U e v vs) (hm : Mod B' U' w w') (hd : U ≤ B' ∨ U' ≤ B) : OU w' B U e v vs := by
  refine ⟨⟨h.1.1, ?_⟩, Nat.le_trans h.2.1 hm.size, h.2.2⟩
  rcases h.1.2 with h2 | ⟨g, cap, cur, rfl, hb, hg, r⟩
  · exact .inl h2
  · refine .inr ⟨g, cap, cur, rfl, hb, ?_, r⟩
    have hlt := h.lt g rfl
    rw [hm.block g (Array.getElem?_eq_some_iff.1 hg).1 (fun hh => by omega)]
    exact hg
theorem OU.wide {w : World} {B U B' U' e : Nat} {v : Value} {vs : List Value} (h : OU w B U e v vs) (h1 : B' ≤ B) (h2 : U ≤ U') (h3 : U' ≤ w.heap.size) : OU w B' U' e v vs :=
  ⟨h.1.mono h1, h3, fun b hb => by have := h.2.2 b hb; omega⟩
theorem SV.mod {w w' : World} {B U : Nat} {v : Value} {vs : List Value} (h : SV w v vs) (hm : Mod B U w w') (hb : ∀ b, v.ownBlock = some b → 0 < vs.length → ¬ (B ≤ b ∧ b < U)) : SV w' v vs :=
  h.keep fun b h1 h2 => hm.block b (h.lt h2 b h1) (hb b h1 h2)

/-- What 'held' answers for a list of numbers. -/
def heldI (xs : List Int) (k : Int) : Int := if xs = marks xs.length k then k + xs.length else -1
theorem heldI_marks (n : Nat) (k : Int) : heldI (marks n k) k = k + n := by unfold heldI; rw [marks_len, if_pos rfl]
end B
end Go.Proofs.YtebegkegkdmbjaaDoor
