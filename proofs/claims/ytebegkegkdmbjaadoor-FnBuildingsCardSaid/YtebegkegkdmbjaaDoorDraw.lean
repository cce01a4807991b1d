/-
  The source of drawn numbers: a block with a slice of bytes, a place and a seed.
-/
import Derived.Test.YtebegkegkdmbjaaDoorStruct
import Derived.Test.YtebegkegkdmbjaaDoorNest
namespace Go.Proofs.YtebegkegkdmbjaaDoor
namespace B
open Go.RowKit

/-- Block b holds a source of numbers; its bytes lie below b. -/
def Src (w : World) (b : Nat) : Prop := ∃ (vc : Value) (l : List UInt8) (k : Nat) (sd : Int), VR w b [vc, .int .i64 (k : Int), .int .i64 sd] ∧ SV w vc (byts l) ∧ (∀ x, vc.ownBlock = some x → 0 < l.length → x < b) ∧ k ≤ l.length ∧ 0 ≤ sd ∧ sd < 2147483647

section
variable {w w' : World} {b : Nat}
theorem Src.ext (h : Src w b) (he : Ext w w') : Src w' b := by
  obtain ⟨vc, l, k, sd, h1, h2, h3⟩ := h; exact ⟨vc, l, k, sd, h1.ext he, h2.ext he, h3⟩
theorem Src.lt (h : Src w b) : b < w.heap.size := by obtain ⟨vc, l, k, sd, h1, _⟩ := h; exact h1.lt
/-- Writes to blocks from B on do not touch a source below. -/
theorem Src.mod {B U : Nat} (h : Src w b) (hm : Mod B U w w') (hb : b < B) : Src w' b := by
  obtain ⟨vc, l, k, sd, h1, h2, h3, h4⟩ := h
  refine ⟨vc, l, k, sd, h1.mod hm (by omega), h2.mod hm (fun x hx h0 => ?_), h3, h4⟩
  have := h3 x hx (by rwa [bytes_len] at h0); omega
theorem Src.grown {row : Option Nat} (h : Src w b) (hg : w.grownBy w' row) (hr : ∀ k, row = some k → b < k) : Src w' b := by
  obtain ⟨vc, l, k, sd, h1, h2, h3, h4⟩ := h
  refine ⟨vc, l, k, sd, h1.grown hg (fun e => by have := hr b e; omega), h2.keep (fun x hx h0 => hg.block x (h2.lt h0 x hx) (fun e => ?_)), h3, h4⟩
  have h5 := h3 x hx (by rwa [bytes_len] at h0)
  have := hr x e.symm
  omega
end

/-- What a draw says of its world: the source is still one, and nothing else that was there has turned. -/
def Drawn (w : World) (b : Nat) (w' : World) : Prop := Src w' b ∧ Mod b (b + 1) w w'
theorem Drawn.refl {w : World} {b : Nat} (h : Src w b) : Drawn w b w := ⟨h, Mod.refl _ _ _⟩
theorem Drawn.trans {w w1 w2 : World} {b : Nat} (h : Drawn w b w1) (k : Drawn w1 b w2) : Drawn w b w2 := ⟨k.1, h.2.trans k.2⟩
theorem Drawn.ext {w w1 w2 : World} {b : Nat} (h : Drawn w b w1) (k : Ext w1 w2) : Drawn w b w2 := ⟨h.1.ext k, h.2.trans (k.mod _ _)⟩
theorem Drawn.size {w w1 : World} {b : Nat} (h : Drawn w b w1) : w.heap.size ≤ w1.heap.size := h.2.size
/-- Writes to blocks that w has not. -/
theorem Drawn.grown {w w1 w2 : World} {b : Nat} {row : Option Nat} (h : Drawn w b w1) (hw : b < w.heap.size) (hg : w1.grownBy w2 row) (hr : ∀ k, row = some k → w.heap.size ≤ k) : Drawn w b w2 :=
  ⟨h.1.grown hg (fun k hk => by have := hr k hk; omega), ⟨hg.os.trans h.2.os, hg.tape.trans h.2.tape, hg.output.trans h.2.output, Nat.le_trans h.2.size hg.size, fun k hk hn => (hg.block k (Nat.lt_of_lt_of_le hk h.2.size) (fun e => by have := hr k e.symm; omega)).trans (h.2.block k hk hn)⟩⟩
/-- A function's own source: all that it wrote is new to its caller. -/
theorem Drawn.own {w0 w w' : World} {b : Nat} (h : Drawn w b w') (he : Ext w0 w) (hb : w0.heap.size ≤ b) : Ext w0 w' := Ext.then_mod he h.2 hb
theorem OV.drawn {w w' : World} {b B e : Nat} {v : Value} {vs : List Value} (h : OV w B e v vs) (hd : Drawn w b w') (hb : b < B) : OV w' B e v vs := by
  have hu : OU w B w.heap.size e v vs := ⟨h, Nat.le_refl _, fun x hx => (h.lt x hx).2⟩
  exact (hu.mod hd.2 (.inr (by omega))).1
theorem OU.drawn {w w' : World} {b B U e : Nat} {v : Value} {vs : List Value} (h : OU w B U e v vs) (hd : Drawn w b w') (hb : b < B) : OU w' B U e v vs := h.mod hd.2 (.inr (by omega))
theorem VR.drawn {w w' : World} {b c : Nat} {cs : List Value} (h : VR w c cs) (hd : Drawn w b w') (hb : c ≠ b) : VR w' c cs := h.mod hd.2 (by omega)

/-- A slice that grew has no block in common with what it had none with before. -/
theorem nb_new {w : World} {v v' c : Value} (h : NB c v) (hc : ∀ x, c.ownBlock = some x → x < w.heap.size) (hn : v'.ownBlock = v.ownBlock ∨ ∃ b, v'.ownBlock = some b ∧ w.heap.size ≤ b) : NB c v' := by
  intro x h1 h2
  rcases hn with hn | ⟨b, hn, hb⟩
  · rw [hn] at h2; exact h x h1 h2
  · rw [hn] at h2; have := hc x h1; simp only [Option.some.injEq] at h2; omega
theorem nb_both {w : World} {v v' c : Value} (h : NB v c) (hc : ∀ x, c.ownBlock = some x → x < w.heap.size) (hn : v'.ownBlock = v.ownBlock ∨ ∃ b, v'.ownBlock = some b ∧ w.heap.size ≤ b) : NB v' c := (nb_new h.symm hc hn).symm
theorem nb_some {v c : Value} {x y : Nat} (hv : v.ownBlock = some x) (hc : c.ownBlock = some y) (hn : x ≠ y) : NB v c := fun b h1 h2 => by
  rw [hv] at h1; rw [hc] at h2; simp only [Option.some.injEq] at h1 h2; omega
theorem OV.blk {w : World} {B e : Nat} {v : Value} {vs : List Value} (h : OV w B e v vs) : ∀ x, v.ownBlock = some x → x < w.heap.size := fun x hx => (h.lt x hx).2

/-- Another slice in the place of one row. -/
theorem OwC.put {α : Type} {f : List α → List Value} {e te B U i : Nat} {w w' : World} {v c : Value} {cs : List Value} {rs : List (List α)} {r : List α} (h : OwC f e te w B U v cs rs) (hi : i < rs.length) (hc : OV w B e c (f r)) (hn : NB c v)
    (hv' : OV w' B te v (cs.set i c)) (hg : w.grownBy w' v.ownBlock) : RuN f w' B w'.heap.size v (rs.set i r) := by
  have hs := hg.size
  have hU := h.1.2.1
  refine ⟨cs.set i c, ⟨hv'.sv, by simpa using h.2.1, fun j hj => ?_⟩, fun b hb => (hv'.lt b hb), Nat.le_refl _, fun j hj b hb => ?_⟩
  · rw [List.length_set] at hj
    by_cases e : i = j
    · subst e
      have e1 : (cs.set i c).getD i undef = c := by have := h.2.1; simp [List.getD, show i < cs.length by omega]
      have e2 : (rs.set i r).getD i [] = r := by simp [List.getD, hi]
      rw [e1, e2]
      exact (ov_other hc hg hn).sv
    · have e1 : (cs.set i c).getD j undef = cs.getD j undef := by simp [List.getD, e]
      have e2 : (rs.set i r).getD j [] = rs.getD j [] := by simp [List.getD, e]
      rw [e1, e2]
      exact ((h.2.2.1 j hj).1.other hg (h.2.2.1 j hj).2).sv
  · rw [List.length_set] at hj
    by_cases e : i = j
    · subst e
      have e1 : (cs.set i c).getD i undef = c := by have := h.2.1; simp [List.getD, show i < cs.length by omega]
      rw [e1] at hb
      have := hc.lt b hb; omega
    · have e1 : (cs.set i c).getD j undef = cs.getD j undef := by simp [List.getD, e]
      rw [e1] at hb
      have := (h.2.2.1 j hj).1.lt b hb; omega

/-- What a modulus leaves. -/
theorem mod_range {x n : Int} (hn : 1 < n) : 0 ≤ x % n ∧ (1 ≤ n → x % n < n) ∧ (n ≤ 1 → x % n = 0) :=
  ⟨Int.emod_nonneg _ (by omega), fun _ => Int.emod_lt_of_pos _ (by omega), fun h => absurd hn (by omega)⟩
/-! ### Functions of four and of five results -/
section
variable {P : Program} {n : Nat} {E : List (Nat × Value)} {w : World} {C : World → Prop} {ty : TypeId}
theorem results_tmp4 {fn : Func} {t u v x : Tmp} (h : fn.results = #[.tmp t, .tmp u, .tmp v, .tmp x]) (tmps : Array Value) (P : Program) (w : World) :
    (results fn tmps).run P w = .ok (.tuple #[tmps.getD t undef, tmps.getD u undef, tmps.getD v undef, tmps.getD x undef]) w := by
  simp only [results, h]
  simp [Sem.run_bind, Result.andThen]
theorem results_tmp5 {fn : Func} {t u v x y : Tmp} (h : fn.results = #[.tmp t, .tmp u, .tmp v, .tmp x, .tmp y]) (tmps : Array Value) (P : Program) (w : World) :
    (results fn tmps).run P w = .ok (.tuple #[tmps.getD t undef, tmps.getD u undef, tmps.getD v undef, tmps.getD x undef, tmps.getD y undef]) w := by
  simp only [results, h]
  simp [Sem.run_bind, Result.andThen]
theorem Fin.ret4 {fn : Func} {R : Ending → World → Prop} {t u v x : Nat} {v1 v2 v3 v4 : Value} (hr : fn.results = #[.tmp t, .tmp u, .tmp v, .tmp x]) (h1 : lk E t = v1) (h2 : lk E u = v2) (h3 : lk E v = v3) (h4 : lk E x = v4) (k : R (.returned (.tuple #[v1, v2, v3, v4])) w) : Fin (bodyPost P fn R) .ret n E w :=
  ⟨fun h => ⟨rfl, _, results_tmp4 hr _ _ _, by rw [den_tmp h, den_tmp h, den_tmp h, den_tmp h, h1, h2, h3, h4]; exact k⟩⟩
theorem Fin.ret5 {fn : Func} {R : Ending → World → Prop} {t u v x y : Nat} {v1 v2 v3 v4 v5 : Value} (hr : fn.results = #[.tmp t, .tmp u, .tmp v, .tmp x, .tmp y]) (h1 : lk E t = v1) (h2 : lk E u = v2) (h3 : lk E v = v3) (h4 : lk E x = v4) (h5 : lk E y = v5) (k : R (.returned (.tuple #[v1, v2, v3, v4, v5])) w) : Fin (bodyPost P fn R) .ret n E w :=
  ⟨fun h => ⟨rfl, _, results_tmp5 hr _ _ _, by rw [den_tmp h, den_tmp h, den_tmp h, den_tmp h, den_tmp h, h1, h2, h3, h4, h5]; exact k⟩⟩
theorem y_ext3 {x : Operand} {s t u v : Value} {vs : List Value} (hx : ev E x = .tuple (s :: t :: u :: v :: vs).toArray) : Yields P C E (.extract x 3) ty v := y_ext hx (by simp)
theorem y_ext4 {x : Operand} {r s t u v : Value} {vs : List Value} (hx : ev E x = .tuple (r :: s :: t :: u :: v :: vs).toArray) : Yields P C E (.extract x 4) ty v := y_ext hx (by simp)
end
end B
end Go.Proofs.YtebegkegkdmbjaaDoor
