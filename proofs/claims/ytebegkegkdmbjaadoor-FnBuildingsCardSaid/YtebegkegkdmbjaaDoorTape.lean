/-
  Regions whose order is drawn, with operations that change the world.
  The operations on a path (each waits for the one before) come up in the order of the text, whatever is drawn; what they yield may depend on the world. The others only read: each yields one value in all worlds of a class. Then one walk in the order of the text serves every order.
-/
import Derived.Test.YtebegkegkdmbjaaDoorOps
namespace Go.Proofs.YtebegkegkdmbjaaDoor
namespace B
open Go.RowKit

def QF : Exit → Act → World → Prop := fun _ _ _ => False

section
variable {P : Program} {ops : Array Oper} {md : Region.Mode} {C : World → Prop} {ch : Nat → Bool}

/-- What an operation leaves of a frame. -/
def Rel (d : Option Tmp) (a a' : Act) : Prop := ∃ u ds, a' = ({ a with defers := ds } : Act).put d u

theorem rel_put (d : Option Tmp) (a : Act) (u : Value) : Rel d a (a.put d u) := ⟨u, a.defers, rfl⟩

theorem wpOp_F {Q : Exit → Act → World → Prop} {i : Nat} {K : Act → World → Prop} {a : Act} {w : World} (h : wpOp P ops QF i K a w) : wpOp P ops Q i K a w := by
  unfold wpOp at *
  split
  · rename_i ho; simp only [ho] at h; exact h
  · rename_i o ho
    simp only [ho] at h
    split
    · rename_i hw
      simp only [hw, if_true] at h
      rcases h with h | ⟨_, _, _, hf⟩
      · refine .inl ?_
        unfold Oper.wp at *
        generalize (execOp a.eval o).run P w = r at *
        cases r with
        | ok n w' =>
          cases n <;> simp only [Oper.upon] at h ⊢
          case value => exact h
          case skip => exact h
          case defer => exact h
          case enter f args =>
            refine h.mono fun e w'' he => ?_
            cases e with
            | returned u => exact he
            | panicked c => exact he.elim
            | outgrown => exact he.elim fun _ ⟨_, hh⟩ => hh.elim
          case row => exact h
        | halt x w' =>
          cases x <;> simp only [Oper.upon] at h ⊢
          case panic => exact h.elim
      · exact hf.elim
    · rename_i hw; simp only [hw] at h; exact h

/-- An outcome there is. -/
theorem wpOp_ex {i : Nat} {oi : Oper} (hi : ops[i]? = some oi) {K : Act → World → Prop} {a : Act} {w : World} (h : wpOp P ops QF i K a w) : ∃ a' w', K a' w' ∧ Rel oi.dst a a' := by
  unfold wpOp at h
  simp only [hi] at h
  split at h
  · rcases h with h | ⟨_, _, _, hf⟩
    · unfold Oper.wp at h
      generalize (execOp a.eval oi).run P w = r at *
      cases r with
      | ok n w' =>
        cases n <;> simp only [Oper.upon] at h
        case value u => exact ⟨_, _, h, rel_put _ _ _⟩
        case skip => exact ⟨_, _, h, rel_put _ _ _⟩
        case defer d => exact ⟨_, _, h, _, _, rfl⟩
        case enter f args =>
          obtain ⟨e, w'', fr, he, _⟩ := h []
          cases e with
          | returned u => exact ⟨_, _, he, rel_put _ _ _⟩
          | panicked c => exact he.elim
          | outgrown => exact he.elim fun _ ⟨_, hh⟩ => hh.elim
        case row row args =>
          obtain ⟨u, w'', he, _⟩ := h (Frame.enter P 0 #[] .normal) []
          exact ⟨_, _, he, rel_put _ _ _⟩
      | halt x w' =>
        cases x <;> simp only [Oper.upon] at h
        case panic => exact h.elim
    · exact hf.elim
  · exact ⟨_, _, h, rel_put _ _ _⟩

theorem Rel.eval_put {d e : Option Tmp} {a a' : Act} (h : Rel d a a') (v : Value) (hd : ∀ x, d = some x → e ≠ some x) : Rel d (a.put e v) (a'.put e v) := by
  obtain ⟨u, ds, rfl⟩ := h
  refine ⟨u, ds, ?_⟩
  rw [Act.put_comm _ u v hd]
  cases e <;> rfl

/-- With a value put in beforehand that it does not look at. -/
theorem wpOp_putR {i : Nat} {oi : Oper} {e : Option Tmp} {v : Value} (hi : ops[i]? = some oi) (hsi : ∀ cs b, oi.op ≠ .select cs b) (h1 : ∀ d, e = some d → d ∉ oi.looksAt ops) (h2 : ∀ x, oi.dst = some x → e ≠ some x)
    {K : Act → World → Prop} {a : Act} {w : World} (h : wpOp P ops QF i K a w) : wpOp P ops QF i (fun a'' w' => ∃ a', K a' w' ∧ Rel oi.dst a a' ∧ a'' = a'.put e v) (a.put e v) w := by
  unfold wpOp at *
  simp only [hi] at *
  rw [wanted_put oi a e v h1]
  split
  · rename_i hw
    simp only [hw, if_true] at h
    rcases h with h | ⟨_, _, _, hf⟩
    · refine .inl ?_
      unfold Oper.wp at *
      rw [execOp_put oi hsi a e v h1]
      generalize (execOp a.eval oi).run P w = r at *
      cases r with
      | ok n w' =>
        cases n <;> simp only [Oper.upon] at h ⊢
        case value u => exact ⟨_, h, rel_put _ _ _, (Act.put_comm a u v h2).symm⟩
        case skip => exact ⟨_, h, rel_put _ _ _, (Act.put_comm a undef v h2).symm⟩
        case defer d =>
          refine ⟨_, h, ⟨_, _, rfl⟩, ?_⟩
          rw [Act.put_defers]
          exact (Act.put_comm _ undef v h2).symm
        case enter f args =>
          refine h.mono fun e' w'' he => ?_
          cases e' with
          | returned u => exact ⟨_, he, rel_put _ _ _, (Act.put_comm a u v h2).symm⟩
          | panicked c => exact he
          | outgrown => exact he
        case row row args => exact h.mono fun u w'' he => ⟨_, he, rel_put _ _ _, (Act.put_comm a u v h2).symm⟩
      | halt x w' =>
        cases x <;> simp only [Oper.upon] at h ⊢
        case panic => exact h
    · exact hf.elim
  · rename_i hw
    simp only [hw] at h
    exact ⟨_, h, rel_put _ _ _, (Act.put_comm a undef v h2).symm⟩

/-- One that only reads, in all worlds of the class. -/
def YF (P : Program) (ops : Array Oper) (C : World → Prop) (o : Oper) (v : Value) (a : Act) : Prop :=
  (Region.wanted o (yielded ops a.tmps) = true ∧ ∀ w, C w → (execOp a.eval o).run P w = .ok (.value v) w) ∨ (Region.wanted o (yielded ops a.tmps) = false ∧ v = undef)

theorem YF.same {o : Oper} {v : Value} {a a' : Act} (hy : YF P ops C o v a) (he : execOp a'.eval o = execOp a.eval o) (hw : Region.wanted o (yielded ops a'.tmps) = Region.wanted o (yielded ops a.tmps)) : YF P ops C o v a' := by
  unfold YF at *
  rw [he, hw]
  exact hy
theorem YF.put {o : Oper} {v u : Value} {a : Act} {e : Option Tmp} (hs : ∀ cs b, o.op ≠ .select cs b) (h : ∀ d, e = some d → d ∉ o.looksAt ops) : YF P ops C o v (a.put e u) ↔ YF P ops C o v a :=
  ⟨fun hy => hy.same (execOp_put o hs a e u h).symm (wanted_put o a e u h).symm, fun hy => hy.same (execOp_put o hs a e u h) (wanted_put o a e u h)⟩
theorem YF.rel {o : Oper} {v : Value} {a a' : Act} {e : Option Tmp} (hs : ∀ cs b, o.op ≠ .select cs b) (h : ∀ d, e = some d → d ∉ o.looksAt ops) (hr : Rel e a a') (hy : YF P ops C o v a') : YF P ops C o v a := by
  obtain ⟨u, ds, rfl⟩ := hr
  have h2 := (YF.put (a := { a with defers := ds }) hs h).1 hy
  exact h2.same rfl rfl
theorem YF.det {o : Oper} {u v : Value} {a : Act} {w : World} (hw : C w) (h1 : YF P ops C o u a) (h2 : YF P ops C o v a) : u = v := by
  rcases h1 with ⟨a1, b1⟩ | ⟨a1, rfl⟩ <;> rcases h2 with ⟨a2, b2⟩ | ⟨a2, rfl⟩
  · have := (b1 w hw).symm.trans (b2 w hw)
    simpa using this
  · rw [a1] at a2; cases a2
  · rw [a1] at a2; cases a2
  · rfl

def flOp (P : Program) (ops : Array Oper) (C : World → Prop) (i : Nat) (K : Act → Prop) (a : Act) : Prop := match ops[i]? with
  | none => K a
  | some o => ∃ v, YF P ops C o v a ∧ K (a.put o.dst v)

def tOp (P : Program) (ops : Array Oper) (C : World → Prop) (ch : Nat → Bool) (i : Nat) (K : Act → World → Prop) (a : Act) (w : World) : Prop :=
  if ch i = true then wpOp P ops QF i (fun a' w' => C w' ∧ K a' w') a w else flOp P ops C i (fun a' => K a' w) a

theorem tOp_mono {i : Nat} {K K' : Act → World → Prop} {a : Act} {w : World} (hw : C w) (h : ∀ a w, C w → K a w → K' a w) (hh : tOp P ops C ch i K a w) : tOp P ops C ch i K' a w := by
  unfold tOp at *
  split
  · rename_i hc; simp only [hc, if_true] at hh; exact wpOp_mono (fun a w ⟨h1, h2⟩ => ⟨h1, h _ _ h1 h2⟩) hh
  · rename_i hc
    rw [if_neg hc] at hh
    unfold flOp at *
    cases ho : ops[i]? with
    | none => simp only [ho] at hh ⊢; exact h _ _ hw hh
    | some o => simp only [ho] at hh ⊢; obtain ⟨v, h1, h2⟩ := hh; exact ⟨v, h1, h _ _ hw h2⟩

def wpAnyT (P : Program) (md : Region.Mode) (ops : Array Oper) (C : World → Prop) (ch : Nat → Bool) (Q : Act → World → Prop) : Nat → Array Bool → Act → World → Prop
  | 0, listed, a, w => Region.ready md ops listed = [] ∧ Q a w
  | fuel + 1, listed, a, w => (Region.ready md ops listed = [] → Q a w) ∧ ∀ i ∈ Region.ready md ops listed, tOp P ops C ch i (wpAnyT P md ops C ch Q fuel (listed.setIfInBounds i true)) a w

theorem wpAny_of_T {Q : Act → World → Prop} {Q' : Exit → Act → World → Prop} (hQ : ∀ a w, C w → Q a w → Q' .normal a w) : ∀ (fuel : Nat) (listed : Array Bool) (a : Act) (w : World), C w →
    wpAnyT P md ops C ch Q fuel listed a w → wpAny P md ops Q' fuel listed a w
  | 0, _, _, _, hw, h => ⟨h.1, hQ _ _ hw h.2⟩
  | fuel + 1, listed, a, w, hw, h => ⟨fun h0 => hQ _ _ hw (h.1 h0), fun i hi => by
      have h1 := h.2 i hi
      unfold tOp at h1
      split at h1
      · exact wpOp_F (wpOp_mono (fun a' w' ⟨h2, h3⟩ => wpAny_of_T hQ fuel _ a' w' h2 h3) h1)
      · unfold flOp at h1
        unfold wpOp
        cases ho : ops[i]? with
        | none => simp only [ho] at h1 ⊢; exact wpAny_of_T hQ fuel _ _ _ hw h1
        | some o =>
          simp only [ho] at h1 ⊢
          obtain ⟨v, h2, h3⟩ := h1
          have h4 := wpAny_of_T hQ fuel _ _ _ hw h3
          rcases h2 with ⟨h5, h6⟩ | ⟨h5, rfl⟩
          · simp only [h5, if_true]
            refine .inl ?_
            unfold Oper.wp
            rw [h6 w hw]
            exact h4
          · simp only [h5, Bool.false_eq_true, if_false]; exact h4⟩

/-- Apartness, the other way around. -/
theorem apart_symm {x y : Oper} (h : x.apart ops y = true) : (∀ d, x.dst = some d → d ∉ y.looksAt ops) ∧ (∀ d, x.dst = some d → y.dst ≠ some d) ∧ (∀ d, y.dst = some d → d ∉ x.looksAt ops) := Oper.apart_spec h

def Free (md : Region.Mode) (ops : Array Oper) (i : Nat) (oi : Oper) (listed : Array Bool) : Prop :=
  ∀ j oj, ops[j]? = some oj → j ≠ i → listed.getD j true = false → (∀ e ∈ oj.after, Region.binds md e = true → e.on ≠ i) → oi.apart ops oj = true

theorem Free.set {i j : Nat} {oi : Oper} {listed : Array Bool} (h : Free md ops i oi listed) (hjun : listed.getD j true = false) : Free md ops i oi (listed.setIfInBounds j true) := fun k ok hk hki hun hno => by
  refine h k ok hk hki ?_ hno
  by_cases hjk : j = k
  · subst hjk; exact hjun
  · rw [getD_set_ne true hjk] at hun; exact hun

theorem not_waits {i : Nat} {oj : Oper} {listed : Array Bool} (hi : i ∈ Region.ready md ops listed) (hall : ∀ e ∈ oj.after, Region.binds md e = true → listed.getD e.on false = true) : ∀ e ∈ oj.after, Region.binds md e = true → e.on ≠ i := fun e he hb heq => by
  have h1 := hall e he hb
  have h0 := (mem_ready.1 hi).1
  rw [heq] at h1
  rcases Nat.lt_or_ge i listed.size with h' | h'
  · simp [h'] at h0 h1; rw [h0] at h1; cases h1
  · simp [Array.getElem?_eq_none h'] at h1

/-- A reading one may be taken first. -/
theorem wpAnyT_firstF {Q : Act → World → Prop} {i : Nat} {oi : Oper} {v : Value} (hi : ops[i]? = some oi) (hsel : ∀ (j : Nat) (o : Oper) cs b, ops[j]? = some o → o.op ≠ .select cs b) (hci : ch i = false) :
    ∀ (fuel : Nat) (listed : Array Bool) (a : Act) (w : World), C w → Free md ops i oi listed → i ∈ Region.ready md ops listed → YF P ops C oi v a →
      wpAnyT P md ops C ch Q fuel (listed.setIfInBounds i true) (a.put oi.dst v) w → wpAnyT P md ops C ch Q (fuel + 1) listed a w := by
  intro fuel
  have own : ∀ {K : Act → World → Prop} {a : Act} {w : World}, YF P ops C oi v a → K (a.put oi.dst v) w → tOp P ops C ch i K a w := fun {K a w} hy h => by
    unfold tOp
    rw [if_neg (by simp [hci])]
    unfold flOp
    simp only [hi]
    exact ⟨v, hy, h⟩
  induction fuel with
  | zero =>
    intro listed a w hw _ hr hy H
    refine ⟨fun h => (by rw [h] at hr; cases hr), fun j hj => ?_⟩
    by_cases hji : j = i
    · subst hji; exact own hy H
    · have := ready_mono hj hji
      rw [H.1] at this
      cases this
  | succ fuel ih =>
    intro listed a w hw hfree hr hy H
    refine ⟨fun h => (by rw [h] at hr; cases hr), fun j hj => ?_⟩
    by_cases hji : j = i
    · subst hji; exact own hy H
    · have h1 := H.2 j (ready_mono hj hji)
      obtain ⟨hjun, oj, hoj, hall⟩ := mem_ready.1 hj
      have hap := hfree j oj hoj hji hjun (not_waits hr hall)
      obtain ⟨p1, p2, p3⟩ := Oper.apart_spec hap
      have hsi : ∀ cs b, oi.op ≠ .select cs b := fun cs b => hsel i oi cs b hi
      have hsj : ∀ cs b, oj.op ≠ .select cs b := fun cs b => hsel j oj cs b hoj
      have hfree' := hfree.set hjun
      have hri := ready_mono hr (Ne.symm hji)
      have next : ∀ a' w', C w' → YF P ops C oi v a' → wpAnyT P md ops C ch Q fuel ((listed.setIfInBounds i true).setIfInBounds j true) (a'.put oi.dst v) w' → wpAnyT P md ops C ch Q (fuel + 1) (listed.setIfInBounds j true) a' w' := fun a' w' hw' hy' h => by
        refine ih (listed.setIfInBounds j true) a' w' hw' hfree' hri hy' ?_
        rw [Array.setIfInBounds_comm _ _ hji]; exact h
      unfold tOp at h1 ⊢
      split
      · rename_i hc
        rw [if_pos hc] at h1
        -- the effect of j at the frame without i's value
        unfold wpOp at h1 ⊢
        simp only [hoj] at h1 ⊢
        rw [wanted_put oj a oi.dst v p1] at h1
        have keep : ∀ (a : Act), YF P ops C oi v a → ∀ u, YF P ops C oi v (a.put oj.dst u) := fun a hy u => (YF.put hsi p3).2 hy
        split
        · rename_i hwt
          simp only [hwt, if_true] at h1
          rcases h1 with h1 | ⟨_, _, _, hf⟩
          · refine .inl ?_
            unfold Oper.wp at *
            rw [execOp_put oj hsj a oi.dst v p1] at h1
            generalize (execOp a.eval oj).run P w = r at *
            cases r with
            | ok n w' =>
              cases n <;> simp only [Oper.upon] at h1 ⊢
              case value u => exact ⟨h1.1, next _ _ h1.1 (keep a hy u) (by rw [← Act.put_comm a v u p2]; exact h1.2)⟩
              case skip => exact ⟨h1.1, next _ _ h1.1 (keep a hy _) (by rw [← Act.put_comm a v undef p2]; exact h1.2)⟩
              case defer d =>
                refine ⟨h1.1, next _ _ h1.1 (keep { a with defers := d :: a.defers } (hy.same rfl rfl) _) ?_⟩
                rw [← Act.put_comm _ v undef p2, ← Act.put_defers]
                exact h1.2
              case enter f args =>
                refine h1.mono fun e w'' he => ?_
                cases e with
                | returned u => exact ⟨he.1, next _ _ he.1 (keep a hy u) (by rw [← Act.put_comm a v u p2]; exact he.2)⟩
                | panicked c => exact he.elim
                | outgrown => exact he.elim fun _ ⟨_, hh⟩ => hh.elim
              case row row args => exact h1.mono fun u w'' he => ⟨he.1, next _ _ he.1 (keep a hy u) (by rw [← Act.put_comm a v u p2]; exact he.2)⟩
            | halt x w' =>
              cases x <;> simp only [Oper.upon] at h1 ⊢
              case panic => exact h1
          · exact hf.elim
        · rename_i hwt
          simp only [hwt] at h1
          exact ⟨h1.1, next _ _ h1.1 (keep a hy _) (by rw [← Act.put_comm a v undef p2]; exact h1.2)⟩
      · rename_i hc
        rw [if_neg hc] at h1
        unfold flOp at h1 ⊢
        simp only [hoj] at h1 ⊢
        obtain ⟨u, h2, h3⟩ := h1
        exact ⟨u, (YF.put hsj p1).1 h2, next _ _ hw ((YF.put hsi p3).2 hy) (by rw [← Act.put_comm a v u p2]; exact h3)⟩

/-- A path one may be taken first: no other path one can come up before it. -/
theorem wpAnyT_firstC {Q : Act → World → Prop} {i : Nat} {oi : Oper} (hi : ops[i]? = some oi) (hsel : ∀ (j : Nat) (o : Oper) cs b, ops[j]? = some o → o.op ≠ .select cs b) (hci : ch i = true) {Inv : Array Bool → Prop}
    (hset : ∀ listed j, Inv listed → j ∈ Region.ready md ops listed → Inv (listed.setIfInBounds j true))
    (honly : ∀ listed j, Inv listed → i ∈ Region.ready md ops listed → j ∈ Region.ready md ops listed → ch j = true → j = i) :
    ∀ (fuel : Nat) (listed : Array Bool) (a : Act) (w : World), C w → Inv listed → Free md ops i oi listed → i ∈ Region.ready md ops listed →
      wpOp P ops QF i (fun a' w' => C w' ∧ wpAnyT P md ops C ch Q fuel (listed.setIfInBounds i true) a' w') a w → wpAnyT P md ops C ch Q (fuel + 1) listed a w := by
  intro fuel
  have own : ∀ {K : Act → World → Prop} {a : Act} {w : World}, wpOp P ops QF i (fun a' w' => C w' ∧ K a' w') a w → tOp P ops C ch i K a w := fun {K a w} h => by
    unfold tOp
    rw [if_pos hci]
    exact h
  induction fuel with
  | zero =>
    intro listed a w hw hinv _ hr H
    refine ⟨fun h => (by rw [h] at hr; cases hr), fun j hj => ?_⟩
    by_cases hji : j = i
    · subst hji; exact own H
    · have := ready_mono hj hji
      obtain ⟨a', w', ⟨_, h1⟩, _⟩ := wpOp_ex hi H
      rw [h1.1] at this
      cases this
  | succ fuel ih =>
    intro listed a w hw hinv hfree hr H
    refine ⟨fun h => (by rw [h] at hr; cases hr), fun j hj => ?_⟩
    by_cases hji : j = i
    · subst hji; exact own H
    · obtain ⟨hjun, oj, hoj, hall⟩ := mem_ready.1 hj
      have hap := hfree j oj hoj hji hjun (not_waits hr hall)
      obtain ⟨p1, p2, p3⟩ := Oper.apart_spec hap
      have hsi : ∀ cs b, oi.op ≠ .select cs b := fun cs b => hsel i oi cs b hi
      have hsj : ∀ cs b, oj.op ≠ .select cs b := fun cs b => hsel j oj cs b hoj
      have hcj : ¬ ch j = true := fun h => hji (honly listed j hinv hr hj h)
      have hrj := ready_mono hj hji
      obtain ⟨a0, w0, ⟨hw0, h0⟩, hrel0⟩ := wpOp_ex hi H
      have h1 := h0.2 j hrj
      unfold tOp at h1 ⊢
      rw [if_neg hcj] at h1 ⊢
      unfold flOp at h1 ⊢
      simp only [hoj] at h1 ⊢
      obtain ⟨vj, hy, -⟩ := h1
      have hya := YF.rel hsj p1 hrel0 hy
      refine ⟨vj, hya, ih (listed.setIfInBounds j true) _ w hw (hset _ _ hinv hj) (hfree.set hjun) (ready_mono hr (Ne.symm hji)) ?_⟩
      refine wpOp_mono ?_ (wpOp_putR (e := oj.dst) (v := vj) hi hsi p3 p2 H)
      rintro a'' w'' ⟨a', ⟨hw', h2⟩, hrel, rfl⟩
      refine ⟨hw', ?_⟩
      have h3 := h2.2 j hrj
      unfold tOp at h3
      rw [if_neg hcj] at h3
      unfold flOp at h3
      simp only [hoj] at h3
      obtain ⟨v', hy', h4⟩ := h3
      have : v' = vj := YF.det hw' (YF.rel hsj p1 hrel hy') hya
      subst this
      rw [Array.setIfInBounds_comm _ _ hji]
      exact h4

/-! ### The path -/
def isPath (md : Region.Mode) (ops : Array Oper) : List Nat → Bool
  | [] => true
  | [_] => true
  | x :: y :: l => Nat.blt y x && Region.waitsFor md ops x y && isPath md ops (y :: l)

/-- What has come up, with all that it waited for. -/
def Closed (md : Region.Mode) (ops : Array Oper) (listed : Array Bool) : Prop :=
  listed.size = ops.size ∧ ∀ j oj, ops[j]? = some oj → listed.getD j false = true → ∀ e ∈ oj.after, Region.binds md e = true → listed.getD e.on false = true

theorem Closed.set {listed : Array Bool} {i : Nat} (h : Closed md ops listed) (hi : i ∈ Region.ready md ops listed) : Closed md ops (listed.setIfInBounds i true) := by
  obtain ⟨_, oi, hoi, hall⟩ := mem_ready.1 hi
  refine ⟨by simp [h.1], fun j oj hj hl e he hb => ?_⟩
  by_cases hij : i = j
  · subst hij
    have : oj = oi := Option.some.inj (hj.symm.trans hoi)
    subst this
    exact getD_set_true (hall e he hb)
  · rw [getD_set_ne false hij] at hl
    exact getD_set_true (h.2 j oj hj hl e he hb)

theorem path_listed {listed : Array Bool} (h : Closed md ops listed) : ∀ (l : List Nat) (x : Nat), isPath md ops (x :: l) = true → (∀ ox, ops[x]? = some ox → ∀ e ∈ ox.after, Region.binds md e = true → listed.getD e.on false = true) → ∀ y ∈ l, listed.getD y false = true
  | [], _, _, _, y, hy => by simp at hy
  | z :: l, x, hp, hx, y, hy => by
    simp only [isPath, Bool.and_eq_true] at hp
    obtain ⟨⟨_, hw⟩, hp'⟩ := hp
    obtain ⟨ox, hox, e, he, hb, hon⟩ := Region.waitsFor_spec hw
    have hz : listed.getD z false = true := by have := hx ox hox e he hb; rwa [hon] at this
    simp only [List.mem_cons] at hy
    rcases hy with rfl | hy
    · exact hz
    · exact path_listed h l z hp' (fun oz hoz e he hb => h.2 z oz hoz hz e he hb) y hy

theorem path_lt : ∀ (l : List Nat) (x : Nat), isPath md ops (x :: l) = true → ∀ y ∈ l, y < x
  | [], _, _, y, hy => by simp at hy
  | z :: l, x, hp, y, hy => by
    simp only [isPath, Bool.and_eq_true] at hp
    have h1 : z < x := Nat.le_of_ble_eq_true hp.1.1
    simp only [List.mem_cons] at hy
    rcases hy with rfl | hy
    · exact h1
    · have := path_lt l z hp.2 y hy; omega

theorem path_tail : ∀ {l : List Nat} {x : Nat}, isPath md ops (x :: l) = true → isPath md ops l = true
  | [], _, _ => rfl
  | _ :: _, _, h => by simp only [isPath, Bool.and_eq_true] at h; exact h.2

/-- Of two on the path that may come up now, neither is before the other. -/
theorem path_only {listed : Array Bool} (h : Closed md ops listed) : ∀ (l : List Nat), isPath md ops l = true → ∀ i j, i ∈ l → j ∈ l → i ∈ Region.ready md ops listed → j ∈ Region.ready md ops listed → j = i
  | [], _, i, _, hi, _, _, _ => by simp at hi
  | x :: l, hp, i, j, hi, hj, hri, hrj => by
    have key : ∀ y, y ∈ l → x ∈ Region.ready md ops listed → y ∈ Region.ready md ops listed → False := fun y hy hx hyr => by
      obtain ⟨_, ox, hox, hall⟩ := mem_ready.1 hx
      have h1 := path_listed h l x hp (fun ox' hox' e he hb => by
        have : ox' = ox := Option.some.inj (hox'.symm.trans hox)
        subst this
        exact hall e he hb) y hy
      have h0 := (mem_ready.1 hyr).1
      rcases Nat.lt_or_ge y listed.size with h' | h'
      · simp [h'] at h0 h1; rw [h0] at h1; cases h1
      · simp [Array.getElem?_eq_none h'] at h1
    simp only [List.mem_cons] at hi hj
    rcases hi with rfl | hi <;> rcases hj with rfl | hj
    · rfl
    · exact (key j hj hri hrj).elim
    · exact (key i hi hrj hri).elim
    · exact path_only h l (path_tail hp) i j hi hj hri hrj

/-! ### The walk in the order of the text -/
def wpT (P : Program) (ops : Array Oper) (C : World → Prop) (ch : Nat → Bool) (Q : Act → World → Prop) : Nat → List Oper → Act → World → Prop
  | _, [], a, w => Q a w
  | k, o :: rest, a, w =>
    if ch k = true then
      (if Region.wanted o (yielded ops a.tmps) then o.wp P a w (fun a' w' => C w' ∧ wpT P ops C ch Q (k + 1) rest a' w') QF ∨ (o.asks P a w ∧ LetsOut QF) else C w ∧ wpT P ops C ch Q (k + 1) rest (a.put o.dst undef) w)
    else ∃ v, YF P ops C o v a ∧ wpT P ops C ch Q (k + 1) rest (a.put o.dst v) w

theorem wpAnyT_lex {Q : Act → World → Prop} (hs : Region.noSelect ops = true) {path : List Nat} (hp : isPath md ops path = true) : ∀ (l : List Oper) (k : Nat) (listed : Array Bool) (a : Act) (w : World), (∀ j, l[j]? = ops[k + j]?) → C w → Closed md ops listed →
    Region.lexFrom md ops l.length k listed = true → wpT P ops C (fun i => path.contains i) Q k l a w → wpAnyT P md ops C (fun i => path.contains i) Q l.length listed a w
  | [], _, _, _, _, _, _, _, hB, h => ⟨by simpa [Region.lexFrom] using hB, h⟩
  | o :: l, k, listed, a, w, hl, hw, hcl, hB, h => by
    have h0 : ops[k]? = some o := by simpa using (hl 0).symm
    simp only [List.length_cons, Region.lexFrom, Bool.and_eq_true] at hB
    obtain ⟨⟨hr, hf⟩, hB'⟩ := hB
    have hr' : k ∈ Region.ready md ops listed := by simpa using hr
    have hl' : ∀ j, l[j]? = ops[k + 1 + j]? := fun j => by have := hl (j + 1); simpa [Nat.add_assoc, Nat.add_comm 1 j] using this
    have again : ∀ a' w', C w' → wpT P ops C (fun i => path.contains i) Q (k + 1) l a' w' → wpAnyT P md ops C (fun i => path.contains i) Q l.length (listed.setIfInBounds k true) a' w' := fun a' w' hw' h' =>
      wpAnyT_lex hs hp l (k + 1) _ a' w' hl' hw' (hcl.set hr') hB' h'
    unfold wpT at h
    by_cases hc : path.contains k = true
    · simp only [hc, if_true] at h
      refine wpAnyT_firstC h0 (Region.noSelect_spec hs) hc (Inv := Closed md ops) (fun _ _ h1 h2 => h1.set h2) (fun listed j h1 h2 h3 h4 => path_only h1 path hp k j (by simpa using hc) (by simpa using h4) h2 h3) l.length listed a w hw hcl (Region.free_spec h0 hf) hr' ?_
      refine wpOp_mono (K := fun a' w' => C w' ∧ wpT P ops C (fun i => path.contains i) Q (k + 1) l a' w') (fun a' w' ⟨h1, h2⟩ => ⟨h1, again a' w' h1 h2⟩) ?_
      unfold wpOp
      simp only [h0]
      exact h
    · rw [if_neg hc] at h
      obtain ⟨v, hy, h2⟩ := h
      exact wpAnyT_firstF h0 (Region.noSelect_spec hs) (by simpa using hc) l.length listed a w hw (Region.free_spec h0 hf) hr' hy (again _ _ hw h2)

theorem wp_region_tape {id : Nat} {Q : Exit → Act → World → Prop} {a : Act} {w : World} {path : List Nat} (hm : P.follows .mixedOrders = true) (hB : Region.lexB .any ops = true) (hp : isPath .any ops path = true) (hC : C w.drew)
    (h : wpT P ops C (fun i => path.contains i) (fun a' w' => Q .normal a' w') 0 ops.toList a w.drew) : (Code.region id ops true).wp P Q a w := by
  simp only [Region.lexB, Bool.and_eq_true] at hB
  refine wp_region_any hm (wpAny_of_T (Q := fun a' w' => Q .normal a' w') (ch := fun i => path.contains i) (C := C) (fun _ w' _ h => h) _ _ _ _ hC ?_)
  have := wpAnyT_lex (C := C) (md := .any) hB.1 hp ops.toList 0 (Array.replicate ops.size false) a w.drew (by simp) hC ⟨by simp, fun j oj _ hl => by rw [getD_replicate_false] at hl; cases hl⟩ (by simpa using hB.2) h
  simpa using this

/-! ### The judgement -/
structure TL (P : Program) (ops : Array Oper) (C : World → Prop) (path : List Nat) (Q : Exit → Act → World → Prop) (k : Nat) (rest : List Oper) (n : Nat) (E : List (Nat × Value)) (w : World) : Prop where
  h : kl n E = true → C w → wpT P ops C (fun i => path.contains i) (fun a' w' => Q .normal a' w') k rest (den n E) w

variable {Q : Exit → Act → World → Prop} {path : List Nat} {k n : Nat} {rest : List Oper} {E : List (Nat × Value)} {w : World}

theorem CW.tape {ops : List Oper} {id : Nat} (C : World → Prop) (path : List Nat) (hm : P.follows .mixedOrders = true) (hB : Region.lexB .any ops.toArray = true) (hp : isPath .any ops.toArray path = true) (hC : C w.drew)
    (h : TL P ops.toArray C path Q 0 ops n E w.drew) : CW P Q (.region id ops.toArray true) n E w :=
  ⟨fun hk => wp_region_tape hm hB hp hC (by simpa using h.h hk hC)⟩

theorem TL.nil (h : C w → Fin Q .normal n E w) : TL P ops C path Q k [] n E w := ⟨fun hk hC => (h hC).h hk⟩

/-- One that only reads, not on the path. -/
theorem TL.y {d : Nat} {op : Op} {ty : TypeId} {pos : String} {af : Array Edge} {v : Value} (hc : path.contains k = false) (hd : Nat.blt d n = true) (hr : Yields P C E op ty v) (h : TL P ops C path Q (k + 1) rest n ((d, v) :: E) w) :
    TL P ops C path Q k (⟨some d, op, ty, pos, af, none⟩ :: rest) n E w := by
  refine ⟨fun hk hC => ?_⟩
  unfold wpT
  rw [if_neg (by simpa using hc)]
  refine ⟨v, .inl ⟨wanted_none _, fun w' hw' => ?_⟩, ?_⟩
  · rw [den_eval hk]; exact hr.h w' hw' _ _ _ _
  · show wpT P ops C _ _ _ rest ((den n E).put (some d) v) w
    rw [den_put v (blt_lt hd)]
    exact h.h (kl_cons hd hk) hC

/-- One on the path that leaves the world alone. -/
theorem TL.yc {d : Nat} {op : Op} {ty : TypeId} {pos : String} {af : Array Edge} {v : Value} (hc : path.contains k = true) (hd : Nat.blt d n = true) (hr : Yields P (fun w' => w' = w) E op ty v) (h : TL P ops C path Q (k + 1) rest n ((d, v) :: E) w) :
    TL P ops C path Q k (⟨some d, op, ty, pos, af, none⟩ :: rest) n E w := by
  refine ⟨fun hk hC => ?_⟩
  unfold wpT
  rw [if_pos hc, if_pos (wanted_none _)]
  refine .inl ?_
  unfold Oper.wp
  rw [den_eval hk, hr.h w rfl]
  refine ⟨hC, ?_⟩
  show wpT P ops C _ _ _ rest ((den n E).put (some d) v) w
  rw [den_put v (blt_lt hd)]
  exact h.h (kl_cons hd hk) hC

/-- What is asked behind an operation on the path. -/
def TK (P : Program) (ops : Array Oper) (C : World → Prop) (path : List Nat) (Q : Exit → Act → World → Prop) (k : Nat) (rest : List Oper) : Exit → Act → World → Prop
  | .normal, a, w => C w ∧ wpT P ops C (fun i => path.contains i) (fun a' w' => Q .normal a' w') k rest a w
  | _, _, _ => False

theorem Fin.tl (hC : C w) (h : TL P ops C path Q k rest n E w) : Fin (TK P ops C path Q k rest) .normal n E w := ⟨fun hk => ⟨hC, h.h hk hC⟩⟩

theorem wp_TK {o : Oper} {a : Act} (h : wpList P ops (TK P ops C path Q (k + 1) rest) [o] a w) :
    (if Region.wanted o (yielded ops a.tmps) then o.wp P a w (fun a' w' => C w' ∧ wpT P ops C (fun i => path.contains i) (fun a' w' => Q .normal a' w') (k + 1) rest a' w') QF ∨ (o.asks P a w ∧ LetsOut QF) else C w ∧ wpT P ops C (fun i => path.contains i) (fun a' w' => Q .normal a' w') (k + 1) rest (a.put o.dst undef) w) := by
  unfold wpList at h
  split
  · rename_i hw
    simp only [hw, if_true] at h
    rcases h with h | ⟨_, _, _, hf⟩
    · refine .inl ?_
      unfold Oper.wp at *
      generalize (execOp a.eval o).run P w = r at *
      cases r with
      | ok n w' =>
        cases n <;> simp only [Oper.upon] at h ⊢
        case value => exact h
        case skip => exact h
        case defer => exact h
        case enter f args =>
          refine h.mono fun e w'' he => ?_
          cases e with
          | returned u => exact he
          | panicked c => exact he.elim
          | outgrown => exact he.elim fun _ ⟨_, hh⟩ => hh.elim
        case row => exact h
      | halt x w' =>
        cases x <;> simp only [Oper.upon] at h ⊢
        case panic => exact h
    · exact hf.elim
  · rename_i hw; simp only [hw] at h; exact h

theorem TL.op {o : Oper} (hc : path.contains k = true) (h : C w → RL P ops (TK P ops C path Q (k + 1) rest) [o] n E w) : TL P ops C path Q k (o :: rest) n E w := by
  refine ⟨fun hk hC => ?_⟩
  unfold wpT
  rw [if_pos hc]
  exact wp_TK ((h hC).h hk)

/-! Guards -/
theorem TL.take {d : Option Tmp} {op : Op} {ty : TypeId} {pos : String} {af : Array Edge} {j t : Nat} {b : Bool} (hj : gdst ops j = some t) (ht : Nat.blt t n = true) (hv : lk E t = .bool b)
    (h : TL P ops C path Q k (⟨d, op, ty, pos, af, none⟩ :: rest) n E w) : TL P ops C path Q k (⟨d, op, ty, pos, af, some (j, b)⟩ :: rest) n E w := by
  refine ⟨fun hk hC => ?_⟩
  have hh := h.h hk hC
  have hwt : Region.wanted ⟨d, op, ty, pos, af, some (j, b)⟩ (yielded ops (den n E).tmps) = true := by simp [Region.wanted, yielded_den (n := n) hj ht hv]
  unfold wpT YF at hh ⊢
  rw [wanted_none] at hh
  rw [hwt]
  exact hh

theorem TL.skip {d : Nat} {op : Op} {ty : TypeId} {pos : String} {af : Array Edge} {g : Nat × Bool} (hd : Nat.blt d n = true) (hwt : kl n E = true → Region.wanted ⟨some d, op, ty, pos, af, some g⟩ (yielded ops (den n E).tmps) = false)
    (h : TL P ops C path Q (k + 1) rest n ((d, undef) :: E) w) : TL P ops C path Q k (⟨some d, op, ty, pos, af, some g⟩ :: rest) n E w := by
  refine ⟨fun hk hC => ?_⟩
  have hw0 := hwt hk
  have e : (den n E).put (some d) undef = den n ((d, undef) :: E) := den_put undef (blt_lt hd)
  have hh := h.h (kl_cons hd hk) hC
  unfold wpT
  by_cases hc : path.contains k = true
  · rw [if_pos hc, hw0]
    exact ⟨hC, by show wpT P ops C _ _ _ rest ((den n E).put (some d) undef) w; rw [e]; exact hh⟩
  · rw [if_neg hc]
    exact ⟨undef, .inr ⟨hw0, rfl⟩, by show wpT P ops C _ _ _ rest ((den n E).put (some d) undef) w; rw [e]; exact hh⟩

theorem TL.pass {d : Nat} {op : Op} {ty : TypeId} {pos : String} {af : Array Edge} {j t : Nat} {b : Bool} (hj : gdst ops j = some t) (ht : Nat.blt t n = true) (hv : lk E t = .bool (!b)) (hd : Nat.blt d n = true)
    (h : TL P ops C path Q (k + 1) rest n ((d, undef) :: E) w) : TL P ops C path Q k (⟨some d, op, ty, pos, af, some (j, b)⟩ :: rest) n E w :=
  TL.skip hd (fun _ => by simp [Region.wanted, yielded_den (n := n) hj ht hv]) h
theorem TL.pass2 {d : Nat} {op : Op} {ty : TypeId} {pos : String} {af : Array Edge} {j t : Nat} {b : Bool} (hj : gdst ops j = some t) (ht : Nat.blt t n = true) (hv : lk E t = undef) (hd : Nat.blt d n = true)
    (h : TL P ops C path Q (k + 1) rest n ((d, undef) :: E) w) : TL P ops C path Q k (⟨some d, op, ty, pos, af, some (j, b)⟩ :: rest) n E w :=
  TL.skip hd (fun _ => by
    have hy : yielded ops (den n E).tmps j = none := by
      unfold yielded
      have : (ops[j]?).bind (·.dst) = some t := hj
      simp only [this, Option.bind_some]
      rw [den_get (blt_lt ht), hv]
      rfl
    simp [Region.wanted, hy]) h

theorem TL.split {t : Nat} {b : Bool} (hv : lk E t = .bool b) (ht : Nat.blt t n = true) (h1 : b = true → TL P ops C path Q k rest n ((t, .bool true) :: E) w) (h0 : b = false → TL P ops C path Q k rest n ((t, .bool false) :: E) w) : TL P ops C path Q k rest n E w := by
  refine ⟨fun h hC => ?_⟩
  cases b with
  | true =>
    have := (h1 rfl).h (kl_cons ht h) hC
    rwa [den_congr (lk_same hv)] at this
  | false =>
    have := (h0 rfl).h (kl_cons ht h) hC
    rwa [den_congr (lk_same hv)] at this
theorem TL.force {t : Nat} {b : Bool} (c : Bool) (hv : lk E t = .bool b) (ht : Nat.blt t n = true) (hb : b = c) (h : TL P ops C path Q k rest n ((t, .bool c) :: E) w) : TL P ops C path Q k rest n E w := by
  subst hb
  refine ⟨fun hk hC => ?_⟩
  have := h.h (kl_cons ht hk) hC
  rwa [den_congr (lk_same hv)] at this
end
end B
end Go.Proofs.YtebegkegkdmbjaaDoor
