/-
  As Any; what comes before an operation is looked for six edges far instead of three.
  The operations that only read are taken first, in any order; where only operations with an effect may come up, each of them is walked. An effect behind which nothing reads any more may leave the class.
-/
import Derived.Test.YtebegkegkdmbjaaDoorTape
namespace Go.Proofs.YtebegkegkdmbjaaDoor
namespace B
namespace Any7
open Go.RowKit

section
variable {P : Program} {ops : Array Oper} {C : World → Prop} {eff : List Nat}

/-- All that only reads comes before operation j. -/
def reachB (ops : Array Oper) : Nat → Nat → Nat → Bool
  | 0, _, _ => false
  | f + 1, j, i => Region.waitsFor .any ops j i || (List.range ops.size).any fun k => Region.waitsFor .any ops j k && reachB ops f k i
def tlB (ops : Array Oper) (eff : List Nat) (j : Nat) : Bool := (List.range ops.size).all fun i => eff.contains i || reachB ops 6 j i
def AllR (ops : Array Oper) (eff : List Nat) (listed : Array Bool) : Prop := ∀ i o, ops[i]? = some o → eff.contains i = false → listed.getD i true = true
def JA (ops : Array Oper) (C : World → Prop) (eff : List Nat) (listed : Array Bool) (w : World) : Prop := (C w ∨ AllR ops eff listed) ∧ Closed .any ops listed

theorem AllR.set {listed : Array Bool} {i : Nat} (h : AllR ops eff listed) : AllR ops eff (listed.setIfInBounds i true) := fun k o hk hc => by
  have := h k o hk hc
  by_cases hik : i = k
  · subst hik
    by_cases hs : i < listed.size
    · simp [Array.getD, hs]
    · simp [Array.getD, hs]
  · rw [getD_set_ne true hik]; exact this
theorem getD_tf {listed : Array Bool} {i : Nat} (h : listed.getD i false = true) : listed.getD i true = true := by
  rcases Nat.lt_or_ge i listed.size with h' | h'
  · simpa [Array.getD, h'] using h
  · simp [Array.getD, Nat.not_lt.2 h']
theorem reachB_listed {listed : Array Bool} (hcl : Closed .any ops listed) : ∀ (f j i : Nat), (∀ oj, ops[j]? = some oj → ∀ e ∈ oj.after, Region.binds .any e = true → listed.getD e.on false = true) → reachB ops f j i = true → listed.getD i false = true
  | 0, _, _, _, h => by cases h
  | f + 1, j, i, hj, h => by
    simp only [reachB, Bool.or_eq_true, List.any_eq_true, Bool.and_eq_true] at h
    rcases h with h | ⟨k, _, h1, h2⟩
    · obtain ⟨o, ho, e, he, hb, hon⟩ := Region.waitsFor_spec h
      have := hj o ho e he hb
      rwa [hon] at this
    · obtain ⟨o, ho, e, he, hb, hon⟩ := Region.waitsFor_spec h1
      have hk := hj o ho e he hb
      rw [hon] at hk
      exact reachB_listed hcl f k i (fun ok hok e he hb => hcl.2 k ok hok hk e he hb) h2
theorem tlB_all {listed : Array Bool} {j : Nat} (ht : tlB ops eff j = true) (hcl : Closed .any ops listed) (hr : j ∈ Region.ready .any ops listed) : AllR ops eff listed := fun i o hi hc => by
  obtain ⟨_, oj, hoj, hall⟩ := mem_ready.1 hr
  simp only [tlB, List.all_eq_true, List.mem_range, Bool.or_eq_true] at ht
  have hlt : i < ops.size := (Array.getElem?_eq_some_iff.1 hi).1
  rcases ht i hlt with h | h
  · rw [hc] at h; cases h
  · exact getD_tf (reachB_listed hcl 6 j i (fun o' ho' e he hb => by
      have : o' = oj := Option.some.inj (ho'.symm.trans hoj)
      subst this
      exact hall e he hb) h)

def aOp (P : Program) (ops : Array Oper) (C : World → Prop) (eff : List Nat) (i : Nat) (K : Act → World → Prop) (a : Act) (w : World) : Prop :=
  if eff.contains i = true then wpOp P ops QF i (fun a' w' => (tlB ops eff i = true ∨ (C w → C w')) ∧ K a' w') a w else flOp P ops C i (fun a' => K a' w) a

def wpAnyA (P : Program) (ops : Array Oper) (C : World → Prop) (eff : List Nat) (Q : Act → World → Prop) : Nat → Array Bool → Act → World → Prop
  | 0, listed, a, w => Region.ready .any ops listed = [] ∧ Q a w
  | fuel + 1, listed, a, w => (Region.ready .any ops listed = [] → Q a w) ∧ ∀ i ∈ Region.ready .any ops listed, aOp P ops C eff i (wpAnyA P ops C eff Q fuel (listed.setIfInBounds i true)) a w

theorem wpAny_of_A {Q : Act → World → Prop} {Q' : Exit → Act → World → Prop} (hQ : ∀ a w, Q a w → Q' .normal a w) : ∀ (fuel : Nat) (listed : Array Bool) (a : Act) (w : World), JA ops C eff listed w →
    wpAnyA P ops C eff Q fuel listed a w → wpAny P .any ops Q' fuel listed a w
  | 0, _, _, _, _, h => ⟨h.1, hQ _ _ h.2⟩
  | fuel + 1, listed, a, w, hJ, h => ⟨fun h0 => hQ _ _ (h.1 h0), fun i hi => by
      have h1 := h.2 i hi
      unfold aOp at h1
      split at h1
      · refine wpOp_F (wpOp_mono (fun a' w' ⟨h2, h3⟩ => wpAny_of_A hQ fuel _ a' w' ?_ h3) h1)
        refine ⟨?_, hJ.2.set hi⟩
        rcases h2 with h2 | h2
        · exact .inr (tlB_all h2 hJ.2 hi).set
        · exact hJ.1.imp h2 (fun h => h.set)
      · rename_i hc
        have hc' : eff.contains i = false := by simpa using hc
        unfold flOp at h1
        unfold wpOp
        obtain ⟨hun, o, ho, _⟩ := mem_ready.1 hi
        have hC : C w := by
          rcases hJ.1 with h2 | h2
          · exact h2
          · have := h2 i o ho hc'; rw [hun] at this; cases this
        simp only [ho] at h1 ⊢
        obtain ⟨v, h2, h3⟩ := h1
        have h4 := wpAny_of_A hQ fuel _ _ _ ⟨.inl hC, hJ.2.set hi⟩ h3
        rcases h2 with ⟨h5, h6⟩ | ⟨h5, rfl⟩
        · simp only [h5, if_true]
          refine .inl ?_
          unfold Oper.wp
          rw [h6 w hC]
          exact h4
        · simp only [h5, Bool.false_eq_true, if_false]; exact h4⟩

/-- A reading one may be taken first. -/
theorem wpAnyA_first {Q : Act → World → Prop} {i : Nat} {oi : Oper} {v : Value} (hi : ops[i]? = some oi) (hsel : ∀ (j : Nat) (o : Oper) cs b, ops[j]? = some o → o.op ≠ .select cs b) (hci : eff.contains i = false) :
    ∀ (fuel : Nat) (listed : Array Bool) (a : Act) (w : World), C w → Closed .any ops listed → Free .any ops i oi listed → i ∈ Region.ready .any ops listed → YF P ops C oi v a →
      wpAnyA P ops C eff Q fuel (listed.setIfInBounds i true) (a.put oi.dst v) w → wpAnyA P ops C eff Q (fuel + 1) listed a w := by
  intro fuel
  have own : ∀ {K : Act → World → Prop} {a : Act} {w : World}, YF P ops C oi v a → K (a.put oi.dst v) w → aOp P ops C eff i K a w := fun {K a w} hy h => by
    unfold aOp
    rw [if_neg (by rw [hci]; simp)]
    unfold flOp
    simp only [hi]
    exact ⟨v, hy, h⟩
  induction fuel with
  | zero =>
    intro listed a w hw _ _ hr hy H
    refine ⟨fun h => (by rw [h] at hr; cases hr), fun j hj => ?_⟩
    by_cases hji : j = i
    · subst hji; exact own hy H
    · have := ready_mono hj hji
      rw [H.1] at this
      cases this
  | succ fuel ih =>
    intro listed a w hw hcl hfree hr hy H
    refine ⟨fun h => (by rw [h] at hr; cases hr), fun j hj => ?_⟩
    by_cases hji : j = i
    · subst hji; exact own hy H
    · have h1 := H.2 j (ready_mono hj hji)
      obtain ⟨hjun, oj, hoj, hall⟩ := mem_ready.1 hj
      have hap := hfree j oj hoj hji hjun (not_waits hr hall)
      obtain ⟨p1, p2, p3⟩ := Oper.apart_spec hap
      have hsi : ∀ cs b, oi.op ≠ .select cs b := fun cs b => hsel i oi cs b hi
      have hsj : ∀ cs b, oj.op ≠ .select cs b := fun cs b => hsel j oj cs b hoj
      have hfree' := hfree.set hjun
      have hri := ready_mono hr (Ne.symm hji)
      have hntl : ¬ tlB ops eff j = true := fun h => by
        have := tlB_all h hcl hj i oi hi hci
        rw [(mem_ready.1 hr).1] at this; cases this
      have next : ∀ a' w', C w' → YF P ops C oi v a' → wpAnyA P ops C eff Q fuel ((listed.setIfInBounds i true).setIfInBounds j true) (a'.put oi.dst v) w' → wpAnyA P ops C eff Q (fuel + 1) (listed.setIfInBounds j true) a' w' := fun a' w' hw' hy' h => by
        refine ih (listed.setIfInBounds j true) a' w' hw' (hcl.set hj) hfree' hri hy' ?_
        rw [Array.setIfInBounds_comm _ _ hji]; exact h
      unfold aOp at h1 ⊢
      split
      · rename_i hc
        rw [if_pos hc] at h1
        unfold wpOp at h1 ⊢
        simp only [hoj] at h1 ⊢
        rw [wanted_put oj a oi.dst v p1] at h1
        have keep : ∀ (a : Act), YF P ops C oi v a → ∀ u, YF P ops C oi v (a.put oj.dst u) := fun a hy u => (YF.put hsi p3).2 hy
        split
        · rename_i hwt
          simp only [hwt, if_true] at h1
          rcases h1 with h1 | ⟨_, _, _, hf⟩
          · refine .inl ?_
            unfold Oper.wp at *
            rw [execOp_put oj hsj a oi.dst v p1] at h1
            generalize (execOp a.eval oj).run P w = r at *
            cases r with
            | ok n w' =>
              cases n <;> simp only [Oper.upon] at h1 ⊢
              case value u => have hC := h1.1.resolve_left hntl hw; exact ⟨.inr (fun _ => hC), next _ _ hC (keep a hy u) (by rw [← Act.put_comm a v u p2]; exact h1.2)⟩
              case skip => have hC := h1.1.resolve_left hntl hw; exact ⟨.inr (fun _ => hC), next _ _ hC (keep a hy _) (by rw [← Act.put_comm a v undef p2]; exact h1.2)⟩
              case defer d =>
                have hC := h1.1.resolve_left hntl hw
                refine ⟨.inr (fun _ => hC), next _ _ hC (keep { a with defers := d :: a.defers } (hy.same rfl rfl) _) ?_⟩
                rw [← Act.put_comm _ v undef p2, ← Act.put_defers]
                exact h1.2
              case enter f args =>
                refine h1.mono fun e w'' he => ?_
                cases e with
                | returned u => have hC := he.1.resolve_left hntl hw; exact ⟨.inr (fun _ => hC), next _ _ hC (keep a hy u) (by rw [← Act.put_comm a v u p2]; exact he.2)⟩
                | panicked c => exact he.elim
                | outgrown => exact he.elim fun _ ⟨_, hh⟩ => hh.elim
              case row row args => exact h1.mono fun u w'' he => by have hC := he.1.resolve_left hntl hw; exact ⟨.inr (fun _ => hC), next _ _ hC (keep a hy u) (by rw [← Act.put_comm a v u p2]; exact he.2)⟩
            | halt x w' =>
              cases x <;> simp only [Oper.upon] at h1 ⊢
              case panic => exact h1
          · exact hf.elim
        · rename_i hwt
          simp only [hwt] at h1
          have hC := h1.1.resolve_left hntl hw
          exact ⟨.inr (fun _ => hC), next _ _ hC (keep a hy _) (by rw [← Act.put_comm a v undef p2]; exact h1.2)⟩
      · rename_i hc
        rw [if_neg hc] at h1
        unfold flOp at h1 ⊢
        simp only [hoj] at h1 ⊢
        obtain ⟨u, h2, h3⟩ := h1
        exact ⟨u, (YF.put hsj p1).1 h2, next _ _ hw ((YF.put hsi p3).2 hy) (by rw [← Act.put_comm a v u p2]; exact h3)⟩

/-! ### The judgement -/
structure AL (P : Program) (ops : Array Oper) (C : World → Prop) (eff : List Nat) (Q : Exit → Act → World → Prop) (fuel : Nat) (listed : Array Bool) (n : Nat) (E : List (Nat × Value)) (w : World) : Prop where
  h : kl n E = true → JA ops C eff listed w → wpAnyA P ops C eff (fun a' w' => Q .normal a' w') fuel listed (den n E) w

variable {Q : Exit → Act → World → Prop} {k n : Nat} {rest : List Oper} {E : List (Nat × Value)} {w : World} {listed : Array Bool} {fuel : Nat}

theorem CW.any {l : List Oper} {id m : Nat} (C : World → Prop) (eff : List Nat) (hm : P.follows .mixedOrders = true) (hsz : l.length = m) (hC : C w.drew)
    (h : AL P l.toArray C eff Q m (Array.replicate m false) n E w.drew) : CW P Q (.region id l.toArray true) n E w :=
  ⟨fun hk => wp_region_any hm (by
    have hcl : Closed .any l.toArray (Array.replicate m false) := ⟨by simp [hsz], fun j oj _ hl => by rw [getD_replicate_false] at hl; cases hl⟩
    have := wpAny_of_A (Q' := Q) (fun a w h => h) _ _ _ _ ⟨.inl hC, hcl⟩ (h.h hk ⟨.inl hC, hcl⟩)
    subst hsz
    simpa using this)⟩

theorem AL.nil (hr : Region.ready .any ops listed = []) (h : Fin Q .normal n E w) : AL P ops C eff Q fuel listed n E w := ⟨fun hk _ => by
  cases fuel with
  | zero => exact ⟨hr, h.h hk⟩
  | succ f => exact ⟨fun _ => h.h hk, fun i hi => by rw [hr] at hi; cases hi⟩⟩

/-- One that only reads. -/
theorem AL.y (i : Nat) {d : Nat} {op : Op} {ty : TypeId} {pos : String} {af : Array Edge} {v : Value} (hi : ops[i]? = some ⟨some d, op, ty, pos, af, none⟩) (hc : eff.contains i = false) (hs : Region.noSelect ops = true) (hr : (Region.ready .any ops listed).contains i = true) (hf : Region.free .any ops listed i = true) (hd : Nat.blt d n = true)
    (hy : Yields P C E op ty v) (h : AL P ops C eff Q fuel (listed.setIfInBounds i true) n ((d, v) :: E) w) : AL P ops C eff Q (fuel + 1) listed n E w := by
  refine ⟨fun hk hJ => ?_⟩
  have hr' : i ∈ Region.ready .any ops listed := by simpa using hr
  have hC : C w := by
    rcases hJ.1 with h2 | h2
    · exact h2
    · have := h2 i _ hi hc; rw [(mem_ready.1 hr').1] at this; cases this
  refine wpAnyA_first hi (Region.noSelect_spec hs) hc fuel listed _ w hC hJ.2 (Region.free_spec hi hf) hr' (v := v) (.inl ⟨wanted_none _, fun w' hw' => ?_⟩) ?_
  · rw [den_eval hk]; exact hy.h w' hw' _ _ _ _
  · show wpAnyA P ops C eff _ fuel _ ((den n E).put (some d) v) w
    rw [den_put v (blt_lt hd)]
    exact h.h (kl_cons hd hk) ⟨.inl hC, hJ.2.set hr'⟩
theorem AL.yg (i : Nat) {d : Nat} {op : Op} {ty : TypeId} {pos : String} {af : Array Edge} {v : Value} {j t : Nat} {b : Bool} (hi : ops[i]? = some ⟨some d, op, ty, pos, af, some (j, b)⟩) (hc : eff.contains i = false) (hs : Region.noSelect ops = true) (hr : (Region.ready .any ops listed).contains i = true) (hf : Region.free .any ops listed i = true) (hd : Nat.blt d n = true)
    (hj : gdst ops j = some t) (ht : Nat.blt t n = true) (hv : lk E t = .bool b) (hy : Yields P C E op ty v) (h : AL P ops C eff Q fuel (listed.setIfInBounds i true) n ((d, v) :: E) w) : AL P ops C eff Q (fuel + 1) listed n E w := by
  refine ⟨fun hk hJ => ?_⟩
  have hr' : i ∈ Region.ready .any ops listed := by simpa using hr
  have hC : C w := by
    rcases hJ.1 with h2 | h2
    · exact h2
    · have := h2 i _ hi hc; rw [(mem_ready.1 hr').1] at this; cases this
  refine wpAnyA_first hi (Region.noSelect_spec hs) hc fuel listed _ w hC hJ.2 (Region.free_spec hi hf) hr' (v := v) (.inl ⟨by simp [Region.wanted, yielded_den (n := n) hj ht hv], fun w' hw' => ?_⟩) ?_
  · rw [den_eval hk]; exact hy.h w' hw' _ _ _ _
  · show wpAnyA P ops C eff _ fuel _ ((den n E).put (some d) v) w
    rw [den_put v (blt_lt hd)]
    exact h.h (kl_cons hd hk) ⟨.inl hC, hJ.2.set hr'⟩
theorem AL.pass (i : Nat) {d : Nat} {op : Op} {ty : TypeId} {pos : String} {af : Array Edge} {j t : Nat} {b : Bool} (hi : ops[i]? = some ⟨some d, op, ty, pos, af, some (j, b)⟩) (hc : eff.contains i = false) (hs : Region.noSelect ops = true) (hr : (Region.ready .any ops listed).contains i = true) (hf : Region.free .any ops listed i = true) (hd : Nat.blt d n = true)
    (hj : gdst ops j = some t) (ht : Nat.blt t n = true) (hv : lk E t = .bool (!b)) (h : AL P ops C eff Q fuel (listed.setIfInBounds i true) n ((d, undef) :: E) w) : AL P ops C eff Q (fuel + 1) listed n E w := by
  refine ⟨fun hk hJ => ?_⟩
  have hr' : i ∈ Region.ready .any ops listed := by simpa using hr
  have hC : C w := by
    rcases hJ.1 with h2 | h2
    · exact h2
    · have := h2 i _ hi hc; rw [(mem_ready.1 hr').1] at this; cases this
  refine wpAnyA_first hi (Region.noSelect_spec hs) hc fuel listed _ w hC hJ.2 (Region.free_spec hi hf) hr' (v := undef) (.inr ⟨by simp [Region.wanted, yielded_den (n := n) hj ht hv], rfl⟩) ?_
  show wpAnyA P ops C eff _ fuel _ ((den n E).put (some d) undef) w
  rw [den_put undef (blt_lt hd)]
  exact h.h (kl_cons hd hk) ⟨.inl hC, hJ.2.set hr'⟩

/-- What is asked behind an operation with an effect. -/
def AK (P : Program) (ops : Array Oper) (C : World → Prop) (eff : List Nat) (Q : Exit → Act → World → Prop) (fuel : Nat) (listed : Array Bool) (i : Nat) (w0 : World) : Exit → Act → World → Prop
  | .normal, a, w => (tlB ops eff i = true ∨ (C w0 → C w)) ∧ wpAnyA P ops C eff (fun a' w' => Q .normal a' w') fuel (listed.setIfInBounds i true) a w
  | _, _, _ => False

theorem Fin.alp {i : Nat} {w0 : World} (hr : i ∈ Region.ready .any ops listed) (hJ : JA ops C eff listed w0) (hC : tlB ops eff i = true ∨ (C w0 → C w)) (h : AL P ops C eff Q fuel (listed.setIfInBounds i true) n E w) : Fin (AK P ops C eff Q fuel listed i w0) .normal n E w :=
  ⟨fun hk => ⟨hC, h.h hk ⟨by
    rcases hC with h2 | h2
    · exact .inr (tlB_all h2 hJ.2 hr).set
    · exact hJ.1.imp h2 (fun h => h.set), hJ.2.set hr⟩⟩⟩
theorem Fin.al {i : Nat} {w0 : World} (hr : i ∈ Region.ready .any ops listed) (hJ : JA ops C eff listed w0) (hC : tlB ops eff i = true ∨ C w) (h : AL P ops C eff Q fuel (listed.setIfInBounds i true) n E w) : Fin (AK P ops C eff Q fuel listed i w0) .normal n E w :=
  Fin.alp hr hJ (hC.imp id (fun h _ => h)) h

theorem wp_AK {i : Nat} {o : Oper} {a : Act} (hi : ops[i]? = some o) (h : wpList P ops (AK P ops C eff Q fuel listed i w) [o] a w) :
    wpOp P ops QF i (fun a' w' => (tlB ops eff i = true ∨ (C w → C w')) ∧ wpAnyA P ops C eff (fun a' w' => Q .normal a' w') fuel (listed.setIfInBounds i true) a' w') a w := by
  unfold wpOp
  simp only [hi]
  unfold wpList at h
  split
  · rename_i hw
    simp only [hw, if_true] at h
    rcases h with h | ⟨_, _, _, hf⟩
    · refine .inl ?_
      unfold Oper.wp at *
      generalize (execOp a.eval o).run P w = r at *
      cases r with
      | ok n w' =>
        cases n <;> simp only [Oper.upon] at h ⊢
        case value => exact h
        case skip => exact h
        case defer => exact h
        case enter f args =>
          refine h.mono fun e w'' he => ?_
          cases e with
          | returned u => exact he
          | panicked c => exact he.elim
          | outgrown => exact he.elim fun _ ⟨_, hh⟩ => hh.elim
        case row => exact h
      | halt x w' =>
        cases x <;> simp only [Oper.upon] at h ⊢
        case panic => exact h
    · exact hf.elim
  · rename_i hw; simp only [hw] at h; exact h

/-- What one of the ready ones must do. -/
def AStep (P : Program) (ops : Array Oper) (C : World → Prop) (eff : List Nat) (Q : Exit → Act → World → Prop) (fuel : Nat) (listed : Array Bool) (n : Nat) (E : List (Nat × Value)) (w : World) (i : Nat) : Prop :=
  ∃ o, ops[i]? = some o ∧ eff.contains i = true ∧ (i ∈ Region.ready .any ops listed → JA ops C eff listed w → RL P ops (AK P ops C eff Q fuel listed i w) [o] n E w)

theorem AL.step {rl : List Nat} (hr : Region.ready .any ops listed = rl) (hne : rl.isEmpty = false) (h : ∀ i ∈ rl, AStep P ops C eff Q fuel listed n E w i) : AL P ops C eff Q (fuel + 1) listed n E w := by
  refine ⟨fun hk hJ => ⟨fun h0 => ?_, fun i hi => ?_⟩⟩
  · rw [hr] at h0; subst h0; cases hne
  · have hi' := hi
    rw [hr] at hi
    obtain ⟨o, ho, hc, hrl⟩ := h i hi
    unfold aOp
    rw [if_pos hc]
    exact wp_AK ho ((hrl hi' hJ).h hk)
theorem AL.one {i : Nat} {o : Oper} (hr : Region.ready .any ops listed = [i]) (ho : ops[i]? = some o) (hc : eff.contains i = true) (h : i ∈ Region.ready .any ops listed → JA ops C eff listed w → RL P ops (AK P ops C eff Q fuel listed i w) [o] n E w) : AL P ops C eff Q (fuel + 1) listed n E w :=
  AL.step hr rfl (fun k hk => by rw [List.mem_singleton] at hk; subst hk; exact ⟨o, ho, hc, h⟩)
theorem AL.two {i j : Nat} {o u : Oper} (hr : Region.ready .any ops listed = [i, j]) (ho : ops[i]? = some o) (hu : ops[j]? = some u) (hc : eff.contains i = true) (hd : eff.contains j = true) (h : i ∈ Region.ready .any ops listed → JA ops C eff listed w → RL P ops (AK P ops C eff Q fuel listed i w) [o] n E w)
    (h2 : j ∈ Region.ready .any ops listed → JA ops C eff listed w → RL P ops (AK P ops C eff Q fuel listed j w) [u] n E w) : AL P ops C eff Q (fuel + 1) listed n E w :=
  AL.step hr rfl (fun k hk => by
    simp only [List.mem_cons, List.not_mem_nil, or_false] at hk
    rcases hk with rfl | rfl
    · exact ⟨o, ho, hc, h⟩
    · exact ⟨u, hu, hd, h2⟩)
theorem AL.three {i j k : Nat} {o u v : Oper} (hr : Region.ready .any ops listed = [i, j, k]) (ho : ops[i]? = some o) (hu : ops[j]? = some u) (hv : ops[k]? = some v) (hc : eff.contains i = true) (hd : eff.contains j = true) (he : eff.contains k = true)
    (h : i ∈ Region.ready .any ops listed → JA ops C eff listed w → RL P ops (AK P ops C eff Q fuel listed i w) [o] n E w)
    (h2 : j ∈ Region.ready .any ops listed → JA ops C eff listed w → RL P ops (AK P ops C eff Q fuel listed j w) [u] n E w)
    (h3 : k ∈ Region.ready .any ops listed → JA ops C eff listed w → RL P ops (AK P ops C eff Q fuel listed k w) [v] n E w) : AL P ops C eff Q (fuel + 1) listed n E w :=
  AL.step hr rfl (fun m hm => by
    simp only [List.mem_cons, List.not_mem_nil, or_false] at hm
    rcases hm with rfl | rfl | rfl
    · exact ⟨o, ho, hc, h⟩
    · exact ⟨u, hu, hd, h2⟩
    · exact ⟨v, hv, he, h3⟩)

theorem AL.split {t : Nat} {b : Bool} (hv : lk E t = .bool b) (ht : Nat.blt t n = true) (h1 : b = true → AL P ops C eff Q fuel listed n ((t, .bool true) :: E) w) (h0 : b = false → AL P ops C eff Q fuel listed n ((t, .bool false) :: E) w) : AL P ops C eff Q fuel listed n E w := by
  refine ⟨fun h hC => ?_⟩
  cases b with
  | true =>
    have := (h1 rfl).h (kl_cons ht h) hC
    rwa [den_congr (lk_same hv)] at this
  | false =>
    have := (h0 rfl).h (kl_cons ht h) hC
    rwa [den_congr (lk_same hv)] at this
theorem AL.force {t : Nat} {b : Bool} (c : Bool) (hv : lk E t = .bool b) (ht : Nat.blt t n = true) (hb : b = c) (h : AL P ops C eff Q fuel listed n ((t, .bool c) :: E) w) : AL P ops C eff Q fuel listed n E w := by
  subst hb
  refine ⟨fun hk hC => ?_⟩
  have := h.h (kl_cons ht hk) hC
  rwa [den_congr (lk_same hv)] at this
end
end Any7
end B
end Go.Proofs.YtebegkegkdmbjaaDoor
