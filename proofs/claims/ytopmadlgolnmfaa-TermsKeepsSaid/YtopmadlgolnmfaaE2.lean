/- Statements whose order is open and in which something writes: what only reads memory that no operation of the statement turns is taken first, the others come in a forced order. Statements whose order is open and in which several operations write, in more than one order: all orders are walked. Slice expressions, copy, conversions; cells said otherwise. Slices of slices of numbers: the outer row is an owned slice, the inner rows one part together. What a method that changes its receiver asks of the memory. A stretch under a guard that makes memory, and leaves what is owned as it was. Drawn order: an operation whose guard was not reached. Walks as terms: stretches that read at the most are chains of lemmas; what needs no proof is computed. Small operations that were met later. Rows of different lengths: a family of owned slices as one part; a row is taken out, worked on, and put back. A queue of numbers: a slice that is cut in front and lengthened behind. -/
import Derived.Test.YtopmadlgolnmfaaE1
import Derived.ArgAppend
namespace Go.Proofs.Ytopmadlgolnmfaa
set_option linter.unusedVariables false
set_option linter.unusedSimpArgs false
open Go.RowKit

def NoQ : Exit → Act → World → Prop := fun _ _ _ => False

section
variable {P : Program} {ops : Array Oper} {C : World → Prop} {Qn : Act → World → Prop}

/-- In every world of the class operation o leaves v in its slot, and the world as it is. -/
def Yd (P : Program) (ops : Array Oper) (C : World → Prop) (o : Oper) (v : Value) (a : Act) : Prop :=
  (Region.wanted o (yielded ops a.tmps) = true ∧ ∀ w, C w → (execOp a.eval o).run P w = .ok (.value v) w) ∨ (Region.wanted o (yielded ops a.tmps) = false ∧ v = undef)

theorem Yd.same {o : Oper} {v : Value} {a a' : Act} (hy : Yd P ops C o v a) (he : execOp a'.eval o = execOp a.eval o) (hw : Region.wanted o (yielded ops a'.tmps) = Region.wanted o (yielded ops a.tmps)) : Yd P ops C o v a' := by
  unfold Yd at *; rw [he, hw]; exact hy

def anyC (P : Program) (ops : Array Oper) (C : World → Prop) (Qn : Act → World → Prop) : Nat → Array Bool → Act → World → Prop
  | 0, listed, a, w => Region.ready .any ops listed = [] ∧ Qn a w
  | fuel + 1, listed, a, w => (Region.ready .any ops listed = [] → Qn a w) ∧
      ∀ i ∈ Region.ready .any ops listed, wpOp P ops NoQ i (fun a' w' => C w' ∧ anyC P ops C Qn fuel (listed.setIfInBounds i true) a' w') a w

theorem upon_q {o : Oper} {a : Act} {K : Act → World → Prop} {Q : Exit → Act → World → Prop} {r : Result Next} (h : o.upon P a K NoQ r) : o.upon P a K Q r := by
  cases r with
  | ok n w' =>
    cases n <;> simp only [Oper.upon] at h ⊢ <;> first
      | exact h
      | exact Calls.mono h (fun e w'' he => by
          cases e with
          | returned v => exact he
          | panicked c => exact he.elim
          | outgrown => obtain ⟨_, _, hh⟩ := he; exact hh.elim)
  | halt x w' => cases x <;> simp only [Oper.upon] at h ⊢ <;> first | exact h | exact h.elim

theorem wpOp_q {Q : Exit → Act → World → Prop} {i : Nat} {K : Act → World → Prop} {a : Act} {w : World} (h : wpOp P ops NoQ i K a w) : wpOp P ops Q i K a w := by
  unfold wpOp at *
  split
  · rename_i ho; simp only [ho] at h; exact h
  · rename_i o ho
    simp only [ho] at h
    split
    · rename_i hw
      simp only [hw, if_true] at h
      rcases h with h | ⟨_, _, _, h⟩
      · exact .inl (upon_q h)
      · exact h.elim
    · rename_i hw
      simp only [hw] at h
      exact h

theorem any_of_anyC {Q : Exit → Act → World → Prop} (hQ : ∀ a w, Qn a w → Q .normal a w) : ∀ (fuel : Nat) (listed : Array Bool) (a : Act) (w : World), anyC P ops C Qn fuel listed a w → wpAny P .any ops Q fuel listed a w
  | 0, _, _, _, h => ⟨h.1, hQ _ _ h.2⟩
  | fuel + 1, _, _, _, h => ⟨fun hr => hQ _ _ (h.1 hr), fun i hi => wpOp_mono (fun a' w' h' => any_of_anyC hQ fuel _ a' w' h'.2) (wpOp_q (h.2 i hi))⟩

theorem op_put {i j : Nat} {oi oj : Oper} {v : Value} (hj : ops[j]? = some oj) (hap : oi.apart ops oj = true) (hsi : ∀ cs b, oi.op ≠ .select cs b) (hsj : ∀ cs b, oj.op ≠ .select cs b)
    {K : Act → World → Prop} {a : Act} {w : World} (hy : Yd P ops C oi v a) (h : wpOp P ops NoQ j K (a.put oi.dst v) w) :
    wpOp P ops NoQ j (fun a' w' => Yd P ops C oi v a' ∧ K (a'.put oi.dst v) w') a w := by
  obtain ⟨h1, h2, h3⟩ := Oper.apart_spec hap
  have keep : ∀ (b : Act), Yd P ops C oi v b → ∀ u, Yd P ops C oi v (b.put oj.dst u) := fun b hb u => hb.same (execOp_put oi hsi b oj.dst u h3) (wanted_put oi b oj.dst u h3)
  unfold wpOp at *
  simp only [hj] at *
  rw [wanted_put oj a oi.dst v h1] at h
  by_cases hw : Region.wanted oj (yielded ops a.tmps) = true
  · rw [if_pos hw] at h ⊢
    rcases h with h | ⟨_, _, _, hf⟩
    · refine .inl ?_
      unfold Oper.wp at *
      rw [execOp_put oj hsj a oi.dst v h1] at h
      revert h
      generalize (execOp a.eval oj).run P w = r
      intro h
      cases r with
      | ok n w' =>
        cases n with
        | value u => exact ⟨keep a hy u, by rw [← Act.put_comm a v u h2]; exact h⟩
        | skip => exact ⟨keep a hy _, by rw [← Act.put_comm a v undef h2]; exact h⟩
        | defer d =>
          have hd : Yd P ops C oi v { a with defers := d :: a.defers } := hy.same rfl rfl
          refine ⟨keep _ hd _, ?_⟩
          rw [← Act.put_comm _ v undef h2, ← Act.put_defers]
          exact h
        | enter f args =>
          refine Calls.mono h fun e w'' he => ?_
          cases e with
          | returned u => exact ⟨keep a hy u, by rw [← Act.put_comm a v u h2]; exact he⟩
          | panicked c => exact he
          | outgrown => exact he
        | row row args => exact Rows.mono h fun u w'' he => ⟨keep a hy u, by rw [← Act.put_comm a v u h2]; exact he⟩
        | _ => exact h
      | halt x w' => cases x <;> exact h
    · exact hf.elim
  · rw [if_neg hw] at h ⊢
    exact ⟨keep a hy _, by rw [← Act.put_comm a v undef h2]; exact h⟩

theorem op_yields {i : Nat} {o : Oper} {v : Value} {a : Act} {w : World} {K : Act → World → Prop} (hi : ops[i]? = some o) (hy : Yd P ops C o v a) (hC : C w) (h : K (a.put o.dst v) w) : wpOp P ops NoQ i K a w := by
  unfold wpOp
  simp only [hi]
  rcases hy with ⟨hw, hv⟩ | ⟨hw, rfl⟩
  · rw [if_pos hw]
    refine .inl ?_
    unfold Oper.wp
    rw [hv w hC]
    exact h
  · rw [if_neg (by rw [hw]; simp)]
    exact h

theorem anyC_first {i : Nat} {oi : Oper} {v : Value} (hi : ops[i]? = some oi) (hsel : ∀ (j : Nat) (o : Oper) cs b, ops[j]? = some o → o.op ≠ .select cs b) :
    ∀ (fuel : Nat) (listed : Array Bool) (a : Act) (w : World),
      (∀ j oj, ops[j]? = some oj → j ≠ i → listed.getD j true = false → (∀ e ∈ oj.after, Region.binds .any e = true → e.on ≠ i) → oi.apart ops oj = true) →
      i ∈ Region.ready .any ops listed → Yd P ops C oi v a → C w →
      anyC P ops C Qn fuel (listed.setIfInBounds i true) (a.put oi.dst v) w → anyC P ops C Qn (fuel + 1) listed a w := by
  intro fuel
  induction fuel with
  | zero =>
    intro listed a w _ hr hy hC H
    refine ⟨fun h => (by rw [h] at hr; cases hr), fun j hj => ?_⟩
    by_cases hji : j = i
    · subst hji; exact op_yields hi hy hC ⟨hC, H⟩
    · have h1 := ready_mono hj hji
      rw [H.1] at h1
      cases h1
  | succ fuel ih =>
    intro listed a w hfree hr hy hC H
    refine ⟨fun h => (by rw [h] at hr; cases hr), fun j hj => ?_⟩
    by_cases hji : j = i
    · subst hji; exact op_yields hi hy hC ⟨hC, H⟩
    · have h1 := H.2 j (ready_mono hj hji)
      obtain ⟨hjun, oj, hoj, hall⟩ := mem_ready.1 hj
      have hiun := (mem_ready.1 hr).1
      have hnot : ∀ e ∈ oj.after, Region.binds .any e = true → e.on ≠ i := by
        intro e he hb heq
        have h2 := hall e he hb
        rw [heq] at h2
        rcases Nat.lt_or_ge i listed.size with h' | h'
        · simp [h'] at hiun h2; rw [hiun] at h2; cases h2
        · simp [Array.getElem?_eq_none h'] at h2
      have h2 := op_put (i := i) hoj (hfree j oj hoj hji hjun hnot) (fun cs b => hsel i oi cs b hi) (fun cs b => hsel j oj cs b hoj) hy h1
      refine wpOp_mono (fun a' w' h3 => ?_) h2
      obtain ⟨hy', hC', h3⟩ := h3
      refine ⟨hC', ih (listed.setIfInBounds j true) a' w' ?_ (ready_mono hr (fun e => hji e.symm)) hy' hC' ?_⟩
      · intro k ok hk hki hun hno
        refine hfree k ok hk hki ?_ hno
        by_cases hjk : j = k
        · subst hjk; exact hjun
        · rw [getD_set_ne true hjk] at hun; exact hun
      · rw [Array.setIfInBounds_comm _ _ hji]
        exact h3

/-- The walk: the operations in the order that is named, 'true' for one that is taken first. -/
def wq (P : Program) (ops : Array Oper) (C : World → Prop) (Qn : Act → World → Prop) : List (Nat × Bool) → Act → World → Prop
  | [], a, w => Qn a w
  | (i, true) :: π, a, w => ∃ o v, ops[i]? = some o ∧ Yd P ops C o v a ∧ wq P ops C Qn π (a.put o.dst v) w
  | (i, false) :: π, a, w => wpOp P ops NoQ i (fun a' w' => C w' ∧ wq P ops C Qn π a' w') a w

def ckq (ops : Array Oper) : List (Nat × Bool) → Array Bool → Bool
  | [], listed => (Region.ready .any ops listed).isEmpty
  | (i, true) :: π, listed => (Region.ready .any ops listed).contains i && Region.free .any ops listed i && ckq ops π (listed.setIfInBounds i true)
  | (i, false) :: π, listed => (match Region.ready .any ops listed with | [j] => Nat.beq i j | _ => false) && ckq ops π (listed.setIfInBounds i true)

theorem anyC_of_wq (hs : Region.noSelect ops = true) : ∀ (π : List (Nat × Bool)) (listed : Array Bool) (a : Act) (w : World), ckq ops π listed = true → C w → wq P ops C Qn π a w → anyC P ops C Qn π.length listed a w := by
  intro π
  induction π with
  | nil =>
    intro listed a w hc _ h
    exact ⟨by simpa [ckq] using hc, h⟩
  | cons p π ih =>
    intro listed a w hc hC h
    obtain ⟨i, b⟩ := p
    cases b with
    | true =>
      simp only [ckq, Bool.and_eq_true] at hc
      obtain ⟨⟨hr, hf⟩, hc'⟩ := hc
      obtain ⟨o, v, ho, hy, h'⟩ := h
      exact anyC_first ho (Region.noSelect_spec hs) π.length listed a w (Region.free_spec ho hf) (by simpa using hr) hy hC (ih _ _ _ hc' hC h')
    | false =>
      simp only [ckq, Bool.and_eq_true] at hc
      obtain ⟨hr, hc'⟩ := hc
      have hri : Region.ready .any ops listed = [i] := by
        revert hr
        cases Region.ready .any ops listed with
        | nil => intro hr; cases hr
        | cons j t =>
          cases t with
          | nil => intro hr; have := Nat.eq_of_beq_eq_true hr; rw [this]
          | cons _ _ => intro hr; cases hr
      refine ⟨fun h0 => (by rw [hri] at h0; cases h0), fun j hj => ?_⟩
      rw [hri] at hj
      have : j = i := by simpa using hj
      subst this
      exact wpOp_mono (fun a' w' h' => ⟨h'.1, ih _ _ _ hc' h'.1 h'.2⟩) h

def ckAll (ops : Array Oper) (π : List (Nat × Bool)) : Bool := Region.noSelect ops && ckq ops π (Array.replicate ops.size false) && Nat.beq π.length ops.size

theorem region_wq {id : Nat} {Q : Exit → Act → World → Prop} {a : Act} {w : World} (π : List (Nat × Bool)) (hm : P.follows .mixedOrders = true) (hck : ckAll ops π = true) (hC : C w.drew)
    (h : wq P ops C (fun a w => Q .normal a w) π a w.drew) : (Code.region id ops true).wp P Q a w := by
  simp only [ckAll, Bool.and_eq_true] at hck
  obtain ⟨⟨h1, h2⟩, h3⟩ := hck
  refine wp_region_any hm (any_of_anyC (C := C) (Qn := fun a w => Q .normal a w) (fun _ _ h => h) _ _ _ _ ?_)
  have h4 := anyC_of_wq h1 π _ a _ h2 hC h
  rw [Nat.eq_of_beq_eq_true h3] at h4
  exact h4
end

section
variable {P : Program} {w w0 : World} {F0 : Nat → Prop} {R RE : List Mem} {Q : Exit → Act → World → Prop} {Qn : Act → World → Prop} {l : List Oper} {N : FN} {L : List (Nat × Value)} {a : Act} {ty : TypeId} {pos : String} {af : Array Edge} {op : Op} {y : Code} {id : Nat} {ops : Array Oper} {π : List (Nat × Bool)}

theorem seq_wq (π : List (Nat × Bool)) (hm : P.follows .mixedOrders = true) (hck : ckAll l.toArray π = true) (SE : St w0 F0 RE w.drew)
    (h : ∀ K : Act → World → Prop, (∀ a w, y.wp P Q a w → K a w) → wq P l.toArray (fun w' => St w0 F0 RE w') K π a w.drew) : (Code.seq (.region id l.toArray true) y).wp P Q a w :=
  wp_seq (region_wq π hm hck SE (h _ (fun _ _ h => h)))
theorem one_wq (π : List (Nat × Bool)) (hm : P.follows .mixedOrders = true) (hck : ckAll l.toArray π = true) (SE : St w0 F0 RE w.drew)
    (h : wq P l.toArray (fun w' => St w0 F0 RE w') (fun a w => Q .normal a w) π a w.drew) : (Code.region id l.toArray true).wp P Q a w := region_wq π hm hck SE h

theorem wq_nil {C : World → Prop} (h : Qn a w) : wq P ops C Qn [] a w := h

/-- One that is taken first. -/
theorem wq_does {C : World → Prop} {i d : Nat} {v : Value} (H : Fr N L a) (hi : ops[i]? = some ⟨some d, op, ty, pos, af, none⟩) (hd : Nat.blt d N.n = true) (h : ∀ w', C w' → Does P L ⟨some d, op, ty, pos, af, none⟩ w' v)
    (k : ∀ a', Fr N ((d, v) :: L) a' → wq P ops C Qn π a' w) : wq P ops C Qn ((i, true) :: π) a w :=
  ⟨_, v, hi, .inl ⟨rfl, fun w' hC => h w' hC a.eval (fun x u hx => H.eval hx)⟩, k _ (H.put v hd)⟩
theorem wq_yes {C : World → Prop} {i d j g : Nat} {b : Bool} {v : Value} (H : Fr N L a) (hi : ops[i]? = some ⟨some d, op, ty, pos, af, some (j, b)⟩) (hd : Nat.blt d N.n = true) (hg : (ops[j]?).bind (·.dst) = some g) (hb : look L g = some (.bool b))
    (h : ∀ w', C w' → Does P L ⟨some d, op, ty, pos, af, some (j, b)⟩ w' v)
    (k : ∀ a', Fr N ((d, v) :: L) a' → wq P ops C Qn π a' w) : wq P ops C Qn ((i, true) :: π) a w :=
  ⟨_, v, hi, .inl ⟨wanted_yes H hg hb, fun w' hC => h w' hC a.eval (fun x u hx => H.eval hx)⟩, k _ (H.put v hd)⟩
theorem wq_no {C : World → Prop} {i d j g : Nat} {b c : Bool} (H : Fr N L a) (hi : ops[i]? = some ⟨some d, op, ty, pos, af, some (j, b)⟩) (hd : Nat.blt d N.n = true) (hg : (ops[j]?).bind (·.dst) = some g) (hc : look L g = some (.bool c)) (hne : (c == b) = false)
    (k : ∀ a', Fr N ((d, undef) :: L) a' → wq P ops C Qn π a' w) : wq P ops C Qn ((i, true) :: π) a w :=
  ⟨_, undef, hi, .inr ⟨wanted_no H hg hc hne, rfl⟩, k _ (H.put undef hd)⟩

def onlyN (K : Act → World → Prop) : Exit → Act → World → Prop
  | .normal, a, w => K a w
  | _, _, _ => False

theorem upon_only {o : Oper} {K K' : Act → World → Prop} {r : Result Next} (h : o.upon P a K (onlyN K') r) : o.upon P a K NoQ r := by
  cases r with
  | ok n w' =>
    cases n <;> simp only [Oper.upon] at h ⊢ <;> first
      | exact h
      | exact Calls.mono h (fun e w'' he => by
          cases e with
          | returned v => exact he
          | panicked c => exact he.elim
          | outgrown => obtain ⟨_, _, hh⟩ := he; exact hh.elim)
  | halt x w' => cases x <;> simp only [Oper.upon] at h ⊢ <;> first | exact h | exact h.elim

/-- One that makes or writes: walked as a list of one operation. -/
theorem wq_eff {C : World → Prop} {i : Nat} {o : Oper} (hi : ops[i]? = some o) (h : wpList P ops (onlyN fun a' w' => C w' ∧ wq P ops C Qn π a' w') [o] a w) : wq P ops C Qn ((i, false) :: π) a w := by
  show wpOp P ops NoQ i _ a w
  unfold wpOp
  simp only [hi]
  unfold wpList at h
  split
  · rename_i hw
    rw [if_pos hw] at h
    rcases h with h | ⟨_, _, _, h⟩
    · exact .inl (upon_only h)
    · exact h.elim
  · rename_i hw
    rw [if_neg hw] at h
    exact h
end
end Go.Proofs.Ytopmadlgolnmfaa

namespace Go.Proofs.Ytopmadlgolnmfaa
set_option linter.unusedVariables false
set_option linter.unusedSimpArgs false
open Go.RowKit

inductive Wt where
  | nil
  | q (i : Nat) (t : Wt)
  | p (i : Nat) (t : Wt)
  | e (i : Nat) (t : Wt)
  | b2 (i : Nat) (t : Wt) (j : Nat) (u : Wt)
  | b3 (i : Nat) (t : Wt) (j : Nat) (u : Wt) (k : Nat) (v : Wt)

section
variable {P : Program} {ops : Array Oper} {C : World → Prop} {Qn : Act → World → Prop}

/-- As anyC; behind operation z the class need not hold. -/
def anyZ (P : Program) (ops : Array Oper) (C : World → Prop) (z : Nat) (Qn : Act → World → Prop) : Bool → Nat → Array Bool → Act → World → Prop
  | _, 0, listed, a, w => Region.ready .any ops listed = [] ∧ Qn a w
  | f, fuel + 1, listed, a, w => (Region.ready .any ops listed = [] → Qn a w) ∧
      ∀ i ∈ Region.ready .any ops listed, wpOp P ops NoQ i (fun a' w' => ((f || Nat.beq i z) = true ∨ C w') ∧ anyZ P ops C z Qn (f || Nat.beq i z) fuel (listed.setIfInBounds i true) a' w') a w
theorem any_of_anyZ {z : Nat} {Q : Exit → Act → World → Prop} (hQ : ∀ a w, Qn a w → Q .normal a w) : ∀ (f : Bool) (fuel : Nat) (listed : Array Bool) (a : Act) (w : World), anyZ P ops C z Qn f fuel listed a w → wpAny P .any ops Q fuel listed a w
  | _, 0, _, _, _, h => ⟨h.1, hQ _ _ h.2⟩
  | f, fuel + 1, _, _, _, h => ⟨fun hr => hQ _ _ (h.1 hr), fun i hi => wpOp_mono (fun a' w' h' => any_of_anyZ hQ (f || Nat.beq i z) fuel _ a' w' h'.2) (wpOp_q (h.2 i hi))⟩
theorem not_on {i j : Nat} {listed : Array Bool} {oj : Oper} (hiun : listed.getD i true = false) (hall : ∀ e ∈ oj.after, Region.binds .any e = true → listed.getD e.on false = true) : ∀ e ∈ oj.after, Region.binds .any e = true → e.on ≠ i := by
  intro e he hb heq
  have h2 := hall e he hb
  rw [heq] at h2
  rcases Nat.lt_or_ge i listed.size with h' | h'
  · simp [h'] at hiun h2; rw [hiun] at h2; cases h2
  · simp [Array.getElem?_eq_none h'] at h2
theorem anyZ_first {z i : Nat} {oi : Oper} {v : Value} (hi : ops[i]? = some oi) (hiz : Nat.beq i z = false) (hz : ∀ oz, ops[z]? = some oz → ∃ e ∈ oz.after, Region.binds .any e = true ∧ e.on = i) (hsel : ∀ (j : Nat) (o : Oper) cs b, ops[j]? = some o → o.op ≠ .select cs b) :
    ∀ (fuel : Nat) (listed : Array Bool) (a : Act) (w : World),
      (∀ j oj, ops[j]? = some oj → j ≠ i → listed.getD j true = false → (∀ e ∈ oj.after, Region.binds .any e = true → e.on ≠ i) → oi.apart ops oj = true) →
      i ∈ Region.ready .any ops listed → Yd P ops C oi v a → C w →
      anyZ P ops C z Qn false fuel (listed.setIfInBounds i true) (a.put oi.dst v) w → anyZ P ops C z Qn false (fuel + 1) listed a w := by
  intro fuel
  induction fuel with
  | zero =>
    intro listed a w _ hr hy hC H
    refine ⟨fun h => (by rw [h] at hr; cases hr), fun j hj => ?_⟩
    by_cases hji : j = i
    · subst hji; rw [hiz]; exact op_yields hi hy hC ⟨.inr hC, H⟩
    · have h1 := ready_mono hj hji
      rw [H.1] at h1
      cases h1
  | succ fuel ih =>
    intro listed a w hfree hr hy hC H
    refine ⟨fun h => (by rw [h] at hr; cases hr), fun j hj => ?_⟩
    by_cases hji : j = i
    · subst hji; rw [hiz]; exact op_yields hi hy hC ⟨.inr hC, H⟩
    · have h1 := H.2 j (ready_mono hj hji)
      obtain ⟨hjun, oj, hoj, hall⟩ := mem_ready.1 hj
      have hnot := not_on (j := j) (mem_ready.1 hr).1 hall
      have hjz : Nat.beq j z = false := by
        cases hq : Nat.beq j z with
        | false => rfl
        | true =>
          have := Nat.eq_of_beq_eq_true hq
          subst this
          obtain ⟨e, he, hb, ho⟩ := hz oj hoj
          exact absurd ho (hnot e he hb)
      rw [hjz] at h1 ⊢
      have h2 := op_put (i := i) hoj (hfree j oj hoj hji hjun hnot) (fun cs b => hsel i oi cs b hi) (fun cs b => hsel j oj cs b hoj) hy h1
      refine wpOp_mono (fun a' w' h3 => ?_) h2
      obtain ⟨hy', hC', h3⟩ := h3
      have hC2 : C w' := by
        rcases hC' with h | h
        · cases h
        · exact h
      refine ⟨.inr hC2, ih (listed.setIfInBounds j true) a' w' ?_ (ready_mono hr (fun e => hji e.symm)) hy' hC2 ?_⟩
      · intro k ok hk hki hun hno
        refine hfree k ok hk hki ?_ hno
        by_cases hjk : j = k
        · subst hjk; exact hjun
        · rw [getD_set_ne true hjk] at hun; exact hun
      · rw [Array.setIfInBounds_comm _ _ hji]
        exact h3
/-- One that reads no memory at all. -/
theorem anyZ_pure {z i : Nat} {oi : Oper} {v : Value} (hi : ops[i]? = some oi) (hiz : Nat.beq i z = false) (hsel : ∀ (j : Nat) (o : Oper) cs b, ops[j]? = some o → o.op ≠ .select cs b) :
    ∀ (fuel : Nat) (f : Bool) (listed : Array Bool) (a : Act) (w : World),
      (∀ j oj, ops[j]? = some oj → j ≠ i → listed.getD j true = false → (∀ e ∈ oj.after, Region.binds .any e = true → e.on ≠ i) → oi.apart ops oj = true) →
      i ∈ Region.ready .any ops listed → Yd P ops (fun _ => True) oi v a → (f = true ∨ C w) →
      anyZ P ops C z Qn f fuel (listed.setIfInBounds i true) (a.put oi.dst v) w → anyZ P ops C z Qn f (fuel + 1) listed a w := by
  intro fuel
  induction fuel with
  | zero =>
    intro f listed a w _ hr hy hC H
    refine ⟨fun h => (by rw [h] at hr; cases hr), fun j hj => ?_⟩
    by_cases hji : j = i
    · subst hji; rw [hiz, Bool.or_false]; exact op_yields (C := fun _ => True) hi hy trivial ⟨hC, H⟩
    · have h1 := ready_mono hj hji
      rw [H.1] at h1
      cases h1
  | succ fuel ih =>
    intro f listed a w hfree hr hy hC H
    refine ⟨fun h => (by rw [h] at hr; cases hr), fun j hj => ?_⟩
    by_cases hji : j = i
    · subst hji; rw [hiz, Bool.or_false]; exact op_yields (C := fun _ => True) hi hy trivial ⟨hC, H⟩
    · have h1 := H.2 j (ready_mono hj hji)
      obtain ⟨hjun, oj, hoj, hall⟩ := mem_ready.1 hj
      have hnot := not_on (j := j) (mem_ready.1 hr).1 hall
      have h2 := op_put (C := fun _ => True) (i := i) hoj (hfree j oj hoj hji hjun hnot) (fun cs b => hsel i oi cs b hi) (fun cs b => hsel j oj cs b hoj) hy h1
      refine wpOp_mono (fun a' w' h3 => ?_) h2
      obtain ⟨hy', hC', h3⟩ := h3
      refine ⟨hC', ih (f || Nat.beq j z) (listed.setIfInBounds j true) a' w' ?_ (ready_mono hr (fun e => hji e.symm)) hy' hC' ?_⟩
      · intro k ok hk hki hun hno
        refine hfree k ok hk hki ?_ hno
        by_cases hjk : j = k
        · subst hjk; exact hjun
        · rw [getD_set_ne true hjk] at hun; exact hun
      · rw [Array.setIfInBounds_comm _ _ hji]
        exact h3
/-- Operation z comes behind operation i. -/
def behindZ (ops : Array Oper) (z i : Nat) : Bool := match ops[z]? with
  | some oz => oz.after.any fun e => Region.binds .any e && Nat.beq e.on i
  | none => true
theorem behindZ_spec {z i : Nat} (h : behindZ ops z i = true) : ∀ oz, ops[z]? = some oz → ∃ e ∈ oz.after, Region.binds .any e = true ∧ e.on = i := by
  intro oz ho
  unfold behindZ at h
  rw [ho] at h
  obtain ⟨e, he, hb⟩ := Array.any_eq_true'.1 h
  simp only [Bool.and_eq_true] at hb
  exact ⟨e, he, hb.1, Nat.eq_of_beq_eq_true hb.2⟩

def wt (P : Program) (ops : Array Oper) (C : World → Prop) (z : Nat) (Qn : Act → World → Prop) : Wt → Act → World → Prop
  | .nil, a, w => Qn a w
  | .q i t, a, w => ∃ o v, ops[i]? = some o ∧ Yd P ops C o v a ∧ wt P ops C z Qn t (a.put o.dst v) w
  | .p i t, a, w => ∃ o v, ops[i]? = some o ∧ Yd P ops (fun _ => True) o v a ∧ wt P ops C z Qn t (a.put o.dst v) w
  | .e i t, a, w => wpOp P ops NoQ i (fun a' w' => (i = z ∨ C w') ∧ wt P ops C z Qn t a' w') a w
  | .b2 i t j u, a, w => wpOp P ops NoQ i (fun a' w' => (i = z ∨ C w') ∧ wt P ops C z Qn t a' w') a w ∧ wpOp P ops NoQ j (fun a' w' => (j = z ∨ C w') ∧ wt P ops C z Qn u a' w') a w
  | .b3 i t j u k v, a, w => wpOp P ops NoQ i (fun a' w' => (i = z ∨ C w') ∧ wt P ops C z Qn t a' w') a w ∧ wpOp P ops NoQ j (fun a' w' => (j = z ∨ C w') ∧ wt P ops C z Qn u a' w') a w ∧ wpOp P ops NoQ k (fun a' w' => (k = z ∨ C w') ∧ wt P ops C z Qn v a' w') a w

def eqL : List Nat → List Nat → Bool
  | [], [] => true
  | x :: xs, y :: ys => Nat.beq x y && eqL xs ys
  | _, _ => false
theorem pos_succ {n : Nat} (h : Nat.blt 0 n = true) : ∃ m, n = m + 1 := by
  have : 0 < n := by simpa using h
  exact ⟨n - 1, by omega⟩
theorem eqL_eq : ∀ {xs ys : List Nat}, eqL xs ys = true → xs = ys := by
  intro xs
  induction xs with
  | nil => intro ys h; cases ys with
    | nil => rfl
    | cons _ _ => cases h
  | cons x xs ih => intro ys h; cases ys with
    | nil => cases h
    | cons y ys =>
      simp only [eqL, Bool.and_eq_true] at h
      rw [Nat.eq_of_beq_eq_true h.1, ih h.2]

def ckt (ops : Array Oper) (z : Nat) : Wt → Bool → Nat → Array Bool → Bool
  | .nil, _, n, listed => Nat.beq n 0 && (Region.ready .any ops listed).isEmpty
  | .q i t, f, n, listed => Nat.blt 0 n && (Region.ready .any ops listed).contains i && Region.free .any ops listed i && behindZ ops z i && !Nat.beq i z && !f && ckt ops z t f (n - 1) (listed.setIfInBounds i true)
  | .p i t, f, n, listed => Nat.blt 0 n && (Region.ready .any ops listed).contains i && Region.free .any ops listed i && !Nat.beq i z && ckt ops z t f (n - 1) (listed.setIfInBounds i true)
  | .e i t, f, n, listed => Nat.blt 0 n && eqL (Region.ready .any ops listed) [i] && ckt ops z t (f || Nat.beq i z) (n - 1) (listed.setIfInBounds i true)
  | .b2 i t j u, f, n, listed => Nat.blt 0 n && eqL (Region.ready .any ops listed) [i, j] && ckt ops z t (f || Nat.beq i z) (n - 1) (listed.setIfInBounds i true) && ckt ops z u (f || Nat.beq j z) (n - 1) (listed.setIfInBounds j true)
  | .b3 i t j u k v, f, n, listed => Nat.blt 0 n && eqL (Region.ready .any ops listed) [i, j, k] && ckt ops z t (f || Nat.beq i z) (n - 1) (listed.setIfInBounds i true) && ckt ops z u (f || Nat.beq j z) (n - 1) (listed.setIfInBounds j true) && ckt ops z v (f || Nat.beq k z) (n - 1) (listed.setIfInBounds k true)

theorem flag {f : Bool} {i z : Nat} {p : Prop} (h : i = z ∨ p) : (f || Nat.beq i z) = true ∨ p := by
  rcases h with rfl | h
  · exact .inl (by simp)
  · exact .inr h

theorem anyZ_of_wt {z : Nat} (hs : Region.noSelect ops = true) : ∀ (π : Wt) (f : Bool) (n : Nat) (listed : Array Bool) (a : Act) (w : World), ckt ops z π f n listed = true → (f = true ∨ C w) → wt P ops C z Qn π a w → anyZ P ops C z Qn f n listed a w := by
  intro π
  induction π with
  | nil =>
    intro f n listed a w hc _ h
    simp only [ckt, Bool.and_eq_true] at hc
    have : n = 0 := Nat.eq_of_beq_eq_true hc.1
    subst this
    exact ⟨by simpa using hc.2, h⟩
  | q i t ih =>
    intro f n listed a w hc hC h
    simp only [ckt, Bool.and_eq_true] at hc
    obtain ⟨⟨⟨⟨⟨⟨hn, hr⟩, hf⟩, hb⟩, hiz⟩, hff⟩, hc'⟩ := hc
    obtain ⟨m, rfl⟩ : ∃ m, n = m + 1 := pos_succ hn
    obtain ⟨o, v, ho, hy, h'⟩ := h
    have hf0 : f = false := by simpa using hff
    subst hf0
    have hC2 : C w := by
      rcases hC with h | h
      · cases h
      · exact h
    exact anyZ_first ho (by simpa using hiz) (behindZ_spec hb) (Region.noSelect_spec hs) m listed a w (Region.free_spec ho hf) (by simpa using hr) hy hC2 (ih _ _ _ _ _ hc' (.inr hC2) h')
  | p i t ih =>
    intro f n listed a w hc hC h
    simp only [ckt, Bool.and_eq_true] at hc
    obtain ⟨⟨⟨⟨hn, hr⟩, hf⟩, hiz⟩, hc'⟩ := hc
    obtain ⟨m, rfl⟩ : ∃ m, n = m + 1 := pos_succ hn
    obtain ⟨o, v, ho, hy, h'⟩ := h
    exact anyZ_pure ho (by simpa using hiz) (Region.noSelect_spec hs) m f listed a w (Region.free_spec ho hf) (by simpa using hr) hy hC (ih _ _ _ _ _ hc' hC h')
  | e i t ih =>
    intro f n listed a w hc hC h
    simp only [ckt, Bool.and_eq_true] at hc
    obtain ⟨⟨hn, hr⟩, hc'⟩ := hc
    obtain ⟨m, rfl⟩ : ∃ m, n = m + 1 := pos_succ hn
    have hri := eqL_eq hr
    refine ⟨fun h0 => (by rw [hri] at h0; cases h0), fun j hj => ?_⟩
    rw [hri] at hj
    simp only [List.mem_cons, List.not_mem_nil, or_false] at hj
    subst hj
    exact wpOp_mono (fun a' w' h' => ⟨flag h'.1, ih _ _ _ _ _ hc' (flag h'.1) h'.2⟩) h
  | b2 i t j u ih1 ih2 =>
    intro f n listed a w hc hC h
    simp only [ckt, Bool.and_eq_true] at hc
    obtain ⟨⟨⟨hn, hr⟩, hc1⟩, hc2⟩ := hc
    obtain ⟨m, rfl⟩ : ∃ m, n = m + 1 := pos_succ hn
    have hri := eqL_eq hr
    refine ⟨fun h0 => (by rw [hri] at h0; cases h0), fun j hj => ?_⟩
    rw [hri] at hj
    simp only [List.mem_cons, List.not_mem_nil, or_false] at hj
    rcases hj with rfl | rfl
    · exact wpOp_mono (fun a' w' h' => ⟨flag h'.1, ih1 _ _ _ _ _ hc1 (flag h'.1) h'.2⟩) h.1
    · exact wpOp_mono (fun a' w' h' => ⟨flag h'.1, ih2 _ _ _ _ _ hc2 (flag h'.1) h'.2⟩) h.2
  | b3 i t j u k v ih1 ih2 ih3 =>
    intro f n listed a w hc hC h
    simp only [ckt, Bool.and_eq_true] at hc
    obtain ⟨⟨⟨⟨hn, hr⟩, hc1⟩, hc2⟩, hc3⟩ := hc
    obtain ⟨m, rfl⟩ : ∃ m, n = m + 1 := pos_succ hn
    have hri := eqL_eq hr
    refine ⟨fun h0 => (by rw [hri] at h0; cases h0), fun j hj => ?_⟩
    rw [hri] at hj
    simp only [List.mem_cons, List.not_mem_nil, or_false] at hj
    rcases hj with rfl | rfl | rfl
    · exact wpOp_mono (fun a' w' h' => ⟨flag h'.1, ih1 _ _ _ _ _ hc1 (flag h'.1) h'.2⟩) h.1
    · exact wpOp_mono (fun a' w' h' => ⟨flag h'.1, ih2 _ _ _ _ _ hc2 (flag h'.1) h'.2⟩) h.2.1
    · exact wpOp_mono (fun a' w' h' => ⟨flag h'.1, ih3 _ _ _ _ _ hc3 (flag h'.1) h'.2⟩) h.2.2

def ckTree (ops : Array Oper) (z : Nat) (π : Wt) : Bool := Region.noSelect ops && ckt ops z π false ops.size (Array.replicate ops.size false)

theorem region_wt {z : Nat} {id : Nat} {Q : Exit → Act → World → Prop} {a : Act} {w : World} (π : Wt) (hm : P.follows .mixedOrders = true) (hck : ckTree ops z π = true) (hC : C w.drew)
    (h : wt P ops C z (fun a w => Q .normal a w) π a w.drew) : (Code.region id ops true).wp P Q a w := by
  simp only [ckTree, Bool.and_eq_true] at hck
  exact wp_region_any hm (any_of_anyZ (C := C) (z := z) (Qn := fun a w => Q .normal a w) (fun _ _ h => h) _ _ _ _ _ (anyZ_of_wt hck.1 π false _ _ a _ hck.2 (.inr hC) h))
end

section
variable {P : Program} {w w0 : World} {F0 : Nat → Prop} {R RE : List Mem} {Q : Exit → Act → World → Prop} {Qn : Act → World → Prop} {l : List Oper} {N : FN} {L : List (Nat × Value)} {a : Act} {ty : TypeId} {pos : String} {af : Array Edge} {op : Op} {y : Code} {id z : Nat} {ops : Array Oper} {π t u v3 : Wt}

theorem seq_wt (z : Nat) (π : Wt) (hm : P.follows .mixedOrders = true) (hck : ckTree l.toArray z π = true) (SE : St w0 F0 RE w.drew)
    (h : ∀ K : Act → World → Prop, (∀ a w, y.wp P Q a w → K a w) → wt P l.toArray (fun w' => St w0 F0 RE w') z K π a w.drew) : (Code.seq (.region id l.toArray true) y).wp P Q a w :=
  wp_seq (region_wt π hm hck SE (h _ (fun _ _ h => h)))
theorem one_wt (z : Nat) (π : Wt) (hm : P.follows .mixedOrders = true) (hck : ckTree l.toArray z π = true) (SE : St w0 F0 RE w.drew)
    (h : wt P l.toArray (fun w' => St w0 F0 RE w') z (fun a w => Q .normal a w) π a w.drew) : (Code.region id l.toArray true).wp P Q a w := region_wt π hm hck SE h
theorem wt_nil {C : World → Prop} (h : Qn a w) : wt P ops C z Qn .nil a w := h
theorem wt_does {C : World → Prop} {i d : Nat} {v : Value} (H : Fr N L a) (hi : ops[i]? = some ⟨some d, op, ty, pos, af, none⟩) (hd : Nat.blt d N.n = true) (h : ∀ w', C w' → Does P L ⟨some d, op, ty, pos, af, none⟩ w' v)
    (k : ∀ a', Fr N ((d, v) :: L) a' → wt P ops C z Qn π a' w) : wt P ops C z Qn (.q i π) a w :=
  ⟨_, v, hi, .inl ⟨rfl, fun w' hC => h w' hC a.eval (fun x u hx => H.eval hx)⟩, k _ (H.put v hd)⟩
theorem wt_pure {C : World → Prop} {i d : Nat} {v : Value} (H : Fr N L a) (hi : ops[i]? = some ⟨some d, op, ty, pos, af, none⟩) (hd : Nat.blt d N.n = true) (h : ∀ w', Does P L ⟨some d, op, ty, pos, af, none⟩ w' v)
    (k : ∀ a', Fr N ((d, v) :: L) a' → wt P ops C z Qn π a' w) : wt P ops C z Qn (.p i π) a w :=
  ⟨_, v, hi, .inl ⟨rfl, fun w' _ => h w' a.eval (fun x u hx => H.eval hx)⟩, k _ (H.put v hd)⟩
theorem op_eff {C : World → Prop} {i : Nat} {o : Oper} (hi : ops[i]? = some o) (h : wpList P ops (onlyN fun a' w' => (i = z ∨ C w') ∧ wt P ops C z Qn π a' w') [o] a w) : wpOp P ops NoQ i (fun a' w' => (i = z ∨ C w') ∧ wt P ops C z Qn π a' w') a w := by
  unfold wpOp
  simp only [hi]
  unfold wpList at h
  split
  · rename_i hw
    rw [if_pos hw] at h
    rcases h with h | ⟨_, _, _, h⟩
    · exact .inl (upon_only h)
    · exact h.elim
  · rename_i hw
    rw [if_neg hw] at h
    exact h
theorem wt_eff {C : World → Prop} {i : Nat} {o : Oper} (hi : ops[i]? = some o) (h : wpList P ops (onlyN fun a' w' => (i = z ∨ C w') ∧ wt P ops C z Qn π a' w') [o] a w) : wt P ops C z Qn (.e i π) a w := op_eff hi h
theorem wt_b2 {C : World → Prop} {i j : Nat} {o o' : Oper} (hi : ops[i]? = some o) (hj : ops[j]? = some o') (h : wpList P ops (onlyN fun a' w' => (i = z ∨ C w') ∧ wt P ops C z Qn t a' w') [o] a w) (h' : wpList P ops (onlyN fun a' w' => (j = z ∨ C w') ∧ wt P ops C z Qn u a' w') [o'] a w) : wt P ops C z Qn (.b2 i t j u) a w := ⟨op_eff hi h, op_eff hj h'⟩
theorem wt_b3 {C : World → Prop} {i j k : Nat} {o o' o'' : Oper} (hi : ops[i]? = some o) (hj : ops[j]? = some o') (hk : ops[k]? = some o'') (h : wpList P ops (onlyN fun a' w' => (i = z ∨ C w') ∧ wt P ops C z Qn t a' w') [o] a w) (h' : wpList P ops (onlyN fun a' w' => (j = z ∨ C w') ∧ wt P ops C z Qn u a' w') [o'] a w) (h'' : wpList P ops (onlyN fun a' w' => (k = z ∨ C w') ∧ wt P ops C z Qn v3 a' w') [o''] a w) : wt P ops C z Qn (.b3 i t j u k v3) a w := ⟨op_eff hi h, op_eff hj h', op_eff hk h''⟩
end
end Go.Proofs.Ytopmadlgolnmfaa

namespace Go.Proofs.Ytopmadlgolnmfaa
set_option linter.unusedVariables false
set_option linter.unusedSimpArgs false
open Go.RowKit

/-- The address of s[lo:] (Go leaves it where nothing is behind). -/
def cutA (A : Option Addr) (c lo sz : Nat) : Option Addr := if c = lo then A else A.map (·.add (lo * sz))

section
variable {P : Program} {ops : Array Oper} {w w0 : World} {F0 F : Nat → Prop} {R : List Mem} {Q : Exit → Act → World → Prop} {rest : List Oper} {N : FN} {L : List (Nat × Value)} {a : Act} {ty : TypeId} {pos : String} {af : Array Edge} {d : Option Nat} {g : Option (Nat × Bool)}

theorem run_slice {t e sz : Nat} {A : Option Addr} {n c lo hi : Nat} {vl vh : Option Value} (ht : SlT P t e) (hs : Sz P e sz) (hlo : vl = none ∧ lo = 0 ∨ ∃ k, vl = some (.int k (lo : Int))) (hhi : vh = none ∧ hi = n ∨ ∃ k, vh = some (.int k (hi : Int))) (h1 : lo ≤ hi) (h2 : hi ≤ c) :
    (Instr.sliceAt t (.slice A n c) vl vh none).run P w = .ok (.slice (cutA A c lo sz) (hi - lo) (c - lo)) w := by
  have hb : (Instr.sliceBounds true n c vl vh none).run P w = .ok (lo, hi, c) w := by
    have e1 : (0 : Int) ≤ (lo : Int) ∧ (lo : Int) ≤ (hi : Int) := ⟨by omega, by omega⟩
    have e2 : (0 : Int) ≤ (hi : Int) ∧ (hi : Int) ≤ (c : Int) := ⟨by omega, by omega⟩
    rcases hlo with ⟨rfl, rfl⟩ | ⟨k, rfl⟩ <;> rcases hhi with ⟨rfl, rfl⟩ | ⟨k', rfl⟩ <;> simp [Instr.sliceBounds, Instr.sliceBound, asIntOf, h1, h2]
  have hst : Instr.sliceAt t (.slice A n c) vl vh none = (do
      match ← underlying t with
      | .array n elem =>
        let a ← Instr.sureAddr (.slice A n c)
        let (l, h, m) ← Instr.sliceBounds false n n vl vh none
        let size ← sizeOf elem
        pure (.slice (some (if m = l then a else a.add (l * size))) (h - l) (m - l))
      | _ => Instr.slice t (.slice A n c) vl vh none) := rfl
  rw [hst]
  simp only [Sem.run_bind, run_und ht, Result.andThen_ok, Instr.slice, hb, hs.run, Sem.run_pure, cutA]

theorem does_slice {t e sz : Nat} {x : Operand} {xl xh : Option Operand} {A : Option Addr} {n c lo hi : Nat} (ht : SlT P t e) (hs : Sz P e sz) (hx : ev L x = some (.slice A n c))
    (hlo : xl = none ∧ lo = 0 ∨ ∃ y, xl = some y ∧ ∃ k, ev L y = some (.int k (lo : Int))) (hhi : xh = none ∧ hi = n ∨ ∃ y, xh = some y ∧ ∃ k, ev L y = some (.int k (hi : Int))) (h1 : lo ≤ hi) (h2 : hi ≤ c) :
    Does P L ⟨d, .slice t x xl xh none, ty, pos, af, g⟩ w (.slice (cutA A c lo sz) (hi - lo) (c - lo)) := fun ρ hρ => by
  have hr := run_slice (P := P) (w := w) (A := A) (n := n) (c := c) (lo := lo) (hi := hi) (vl := xl.map ρ) (vh := xh.map ρ) ht hs
    (by rcases hlo with ⟨rfl, rfl⟩ | ⟨y, rfl, k, hy⟩
        · exact .inl ⟨rfl, rfl⟩
        · exact .inr ⟨k, by simp [hρ _ _ hy]⟩)
    (by rcases hhi with ⟨rfl, rfl⟩ | ⟨y, rfl, k, hy⟩
        · exact .inl ⟨rfl, rfl⟩
        · exact .inr ⟨k, by simp [hρ _ _ hy]⟩) h1 h2
  simp [execOp, hρ _ _ hx, hr]

theorem InS.cut {sz n c lo hi : Nat} {A : Option Addr} {cell : Nat → Nat → Value} (h : InS w F sz A n cell) (h1 : lo ≤ hi) (h2 : hi ≤ n) (h3 : n ≤ c) : InS w F sz (cutA A c lo sz) (hi - lo) (fun k j => cell (lo + k) j) := by
  intro hn
  obtain ⟨b, o, rfl, hb, hF, hc⟩ := h (by omega)
  have hne : ¬ c = lo := by omega
  refine ⟨b, o + lo * sz, ?_, hb, hF, fun k j hk hj => ?_⟩
  · simp [cutA, hne, add_lit]
  · have := hc (lo + k) j (by omega) hj
    rw [Nat.add_mul] at this
    rw [← this]
    congr 2
    omega

theorem InS.sub {sz n m : Nat} {A : Option Addr} {cell : Nat → Nat → Value} (h : InS w F sz A n cell) (hm : m ≤ n) : InS w F sz A m cell := by
  intro hn
  obtain ⟨b, o, rfl, hb, hF, hc⟩ := h (by omega)
  exact ⟨b, o, rfl, hb, hF, fun k j hk hj => hc k j (by omega) hj⟩

theorem InS.congr {sz n : Nat} {A : Option Addr} {cell cell' : Nat → Nat → Value} (h : InS w F sz A n cell) (hc : ∀ k j, k < n → j < sz → cell k j = cell' k j) : InS w F sz A n cell' := by
  intro hn
  obtain ⟨b, o, rfl, hb, hF, h1⟩ := h hn
  exact ⟨b, o, rfl, hb, hF, fun k j hk hj => by rw [h1 k j hk hj, hc k j hk hj]⟩

theorem InS.nil {sz : Nat} {A : Option Addr} {cell : Nat → Nat → Value} : InS w F sz A 0 cell := fun h => absurd h (by omega)

theorem St.recell {e sz n c i : Nat} {A : Option Addr} {cell cell' : Nat → Nat → Value} (S : St w0 F0 R w) (hi : R[i]? = some (ownM e sz A n c cell)) (h : ∀ k j, k < n → j < sz → cell k j = cell' k j) : St w0 F0 (R.set i (ownM e sz A n c cell')) w := by
  refine S.imp hi ?_ (fun _ h => h)
  rintro (h1 | ⟨b, cs, h1, h2, h3, h4, h5, h6⟩)
  · exact .inl h1
  · exact .inr ⟨b, cs, h1, h2, h3, h4, h5, fun k j hk hj => by rw [h6 k j hk hj, h k j hk hj]⟩

theorem does_convert {x : Operand} {s t : Nat} {k k' : IntKind} {n : Int} {ds : TypeDesc} (h1 : P.underlying s = some ds) (h2 : P.underlying t = some (.int k)) (hx : ev L x = some (.int k' n)) (hr : k.wrap n = n) :
    Does P L ⟨d, .convert s t x, ty, pos, af, g⟩ w (.int k n) := fun ρ hρ => by
  have e : (convert s t (.int k' n)).run P w = .ok (.int k n) w := by
    simp only [convert, Sem.run_bind, run_und h1, run_und h2, Result.andThen_ok]
    simp [Conv.intToInt, hr]
  simp only [execOp, hρ _ _ hx]
  simp [e]

theorem u64_in {n : Int} (h : 0 ≤ n ∧ n ≤ 18446744073709551615) : IntKind.u64.wrap n = n := IntWalk.u64_in _ h

/-- copy(dst, src), elements of one cell: dst lies in an owned slice, from its element lo on. -/
theorem list_copy {d t e i lo dl dc n c m c' : Nat} {x y : Operand} {A B : Option Addr} {Ad : Option Addr} {cell cell' : Nat → Nat → Value} {t' : Nat} (H : Fr N L a) (hd : Nat.blt d N.n = true) (S : St w0 F0 R w) (ht : SlT P t e) (hs : Sz P e 1)
    (hi : R[i]? = some (ownM e 1 A n c cell)) (hx : ev L x = some (.slice Ad dl dc)) (hAd : Ad = some ⟨(adr A).block, lo, none⟩) (hA : A ≠ none) (hy : ev L y = some (.slice B m c')) (hB : InS w noF 1 B m cell') (hm : 0 < m) (hone : ∀ k j, k < m → j < 1 → (cell' k j).oneCell' = true)
    (hlo : lo + dl ≤ n)
    (k : ∀ w' a', St w0 F0 (R.set i (ownM e 1 A n c (fun k j => if lo ≤ k ∧ k < lo + min m dl then cell' (k - lo) j else cell k j))) w' → Fr N ((d, .int .i64 ((min m dl : Nat) : Int)) :: L) a' → wpList P ops Q rest a' w') :
    wpList P ops Q (⟨some d, .call ⟨.builtin .copy, #[x, y], #[t, t']⟩, ty, pos, af, none⟩ :: rest) a w := by
  refine wpList_plain rfl fun K hK => ?_
  unfold Oper.wp
  subst hAd
  obtain ⟨b0, o0, rfl, _, _, hcB⟩ := hB hm
  rcases S.holds hi with ⟨h, _, _⟩ | ⟨b, cs, rfl, hb, hnc, hcm, hsz, hc⟩
  · exact absurd h hA
  let xs : List Value := (List.range (min m dl)).map fun k => cell' k 0
  have hxl : xs.length = min m dl := by simp [xs]
  have hxg : ∀ (j : Nat) v, xs[j]? = some v → w.cell? ((⟨b0, o0, none⟩ : Addr).add j) = some v := by
    intro j v hv
    have hj : j < min m dl := by have := (List.getElem?_eq_some_iff.1 hv).1; omega
    have e0 : xs[j]? = some (cell' j 0) := by simp [xs, hj]
    rw [e0, Option.some.injEq] at hv
    rw [add_lit, ← hv]
    have := hcB j 0 (by omega) (by omega)
    simpa using this
  have hx1 : ∀ v ∈ xs, v.oneCell' = true := by
    intro v hv
    simp only [xs, List.mem_map, List.mem_range] at hv
    obtain ⟨q, hq, rfl⟩ := hv
    exact hone q 0 (by omega) (by omega)
  have hr := run_copy_row (P := P) w t t' ty e b lo dl dc ⟨b0, o0, none⟩ m c' cs e xs ht hs hb hxl hxg (by rw [hxl, hsz]; omega) hx1
  have e1 : (execOp a.eval ⟨some d, .call ⟨.builtin .copy, #[x, y], #[t, t']⟩, ty, pos, af, none⟩).run P w = .ok (.value (.int .i64 ((min m dl : Nat) : Int))) (w.setRow b (cs.toList.take lo ++ xs ++ cs.toList.drop (lo + xs.length)).toArray) := by
    have hbl : (adr (some (⟨b, 0, none⟩ : Addr))).block = b := rfl
    rw [hbl] at hx
    simp [execOp, resolve, H.eval hx, H.eval hy, invoke, builtin, hr, goInt, hxl]
  rw [e1]
  refine hK _ _ (k _ _ (S.updSame hi ((setRow_keeps w b _).mono ?_) ?_ (fun _ h => h)) (H.put _ hd))
  · rintro q rfl; exact ⟨_, rfl, rfl⟩
  · have hle : lo + xs.length ≤ cs.size := by rw [hxl, hsz]; omega
    refine .inr ⟨b, _, rfl, setRow_heap w b _ _ e (0, 0) hb, hnc, hcm, ?_, ?_⟩
    · simp; omega
    · intro k' j' hk' hj'
      have hj0 : j' = 0 := by omega
      subst hj0
      have hck := hc k' 0 hk' (by omega)
      simp only [Nat.mul_one, Nat.add_zero] at hck ⊢
      rw [List.getElem?_toArray]
      by_cases h1 : lo ≤ k' ∧ k' < lo + min m dl
      · rw [if_pos h1, List.append_assoc, List.getElem?_append_right (by simp; omega)]
        simp only [List.length_take, Array.length_toList]
        rw [Nat.min_eq_left (by omega), List.getElem?_append_left (by omega)]
        have : k' - lo < min m dl := by omega
        simp [xs, this]
      · rw [if_neg h1, ← hck]
        rcases Nat.lt_or_ge k' lo with h2 | h2
        · rw [List.append_assoc, List.getElem?_append_left (by simp; omega), List.getElem?_take_of_lt h2]; simp
        · rw [List.getElem?_append_right (by simp; omega), List.getElem?_drop]
          simp only [List.length_append, List.length_take, Array.length_toList]
          rw [Nat.min_eq_left (by omega), hxl]
          rw [show lo + min m dl + (k' - (lo + min m dl)) = k' by omega]
          simp
end
end Go.Proofs.Ytopmadlgolnmfaa

namespace Go.Proofs.Ytopmadlgolnmfaa
set_option linter.unusedVariables false
set_option linter.unusedSimpArgs false
open Go.RowKit

def updN (f : Nat → Nat) (k v : Nat) : Nat → Nat := fun i => if i = k then v else f i
def mrow (M : Nat → Nat → Int) (k : Nat) (f : Nat → Int) : Nat → Nat → Int := fun a b => if a = k then f b else M a b
def icl (l : List Int) (k _j : Nat) : Value := .int .i64 (l.getD k 0)
def icell1 (n : Int) (_j : Nat) : Value := .int .i64 n
def icell (f : Nat → Int) : Nat → Nat → Value := fun j _ => .int .i64 (f j)

/-- k rows of m numbers each. -/
def rowsM (e : TypeId) (k m : Nat) (rb rc : Nat → Nat) (M : Nat → Nat → Int) : Mem where
  fp := fun q => ∃ i, i < k ∧ q = rb i
  holds := fun w => (∀ i, i < k → m ≤ rc i ∧ rc i ≤ maxLen ∧ ∃ rs : Array Value, w.heap[rb i]? = some (.cells rs e (0, 0)) ∧ rs.size = rc i ∧ ∀ j, j < m → rs[j]? = some (.int .i64 (M i j))) ∧
    ∀ i i', i < k → i' < k → rb i = rb i' → i = i'
  stable := fun w w' h ⟨h1, h2⟩ => ⟨fun i hi => by
    obtain ⟨ha, hb, rs, hc, hd⟩ := h1 i hi
    exact ⟨ha, hb, rs, (h _ ⟨i, hi, rfl⟩).trans hc, hd⟩, h2⟩

section
variable {P : Program} {ops : Array Oper} {w w0 : World} {F0 F : Nat → Prop} {R : List Mem} {Q : Exit → Act → World → Prop} {rest : List Oper} {N : FN} {L : List (Nat × Value)} {a : Act} {ty : TypeId} {pos : String} {af : Array Edge}
variable {e k m : Nat} {rb rc : Nat → Nat} {M : Nat → Nat → Int}

theorem rowsM.rd {i p q : Nat} (S : St w0 F0 R w) (hi : R[i]? = some (rowsM e k m rb rc M)) (hp : p < k) (hq : q < m) : w.cell? (pt (some ⟨rb p, 0, none⟩) 1 q 0) = some (.int .i64 (M p q)) := by
  obtain ⟨h1, _⟩ := S.holds hi
  obtain ⟨_, _, rs, hc, _, hd⟩ := h1 p hp
  have : pt (some ⟨rb p, 0, none⟩) 1 q 0 = ⟨rb p, q, none⟩ := by simp [pt, adr]
  rw [this, cell_of_row w (rb p) q rs e (0, 0) hc]
  exact hd q hq

theorem rowsM.inS {i p : Nat} (S : St w0 F0 R w) (hi : R[i]? = some (rowsM e k m rb rc M)) (hp : p < k) : InS w noF 1 (some ⟨rb p, 0, none⟩) m (icell (M p)) := by
  intro _
  obtain ⟨h1, _⟩ := S.holds hi
  obtain ⟨_, _, rs, hc, _, hd⟩ := h1 p hp
  refine ⟨rb p, 0, rfl, lt_of_heap hc, fun h => h, fun q j hq hj => ?_⟩
  have hj0 : j = 0 := by omega
  subst hj0
  have h3 := cell_of_row w (rb p) q rs e (0, 0) hc
  simp only [Nat.zero_add, Nat.mul_one, Nat.add_zero]
  rw [h3]
  exact hd q hq

theorem rowsM.zero (S : St w0 F0 R w) (e m : Nat) (rb rc : Nat → Nat) (M : Nat → Nat → Int) : St w0 F0 (rowsM e 0 m rb rc M :: R) w :=
  S.new (Keeps.refl _ _) ⟨fun i h => absurd h (by omega), fun i i' h => absurd h (by omega)⟩ fun q ⟨i, h, _⟩ => absurd h (by omega)

theorem rowsM.congr {i : Nat} {M' : Nat → Nat → Int} {rb' rc' : Nat → Nat} (S : St w0 F0 R w) (hi : R[i]? = some (rowsM e k m rb rc M)) (h : ∀ p q, p < k → q < m → M p q = M' p q) (hb : ∀ p, p < k → rb p = rb' p) (hc : ∀ p, p < k → rc p = rc' p) : St w0 F0 (R.set i (rowsM e k m rb' rc' M')) w := by
  refine S.imp hi ?_ ?_
  · rintro ⟨h1, h2⟩
    refine ⟨fun p hp => ?_, fun p p' hp hp' hh => h2 p p' hp hp' (by rw [hb p hp, hb p' hp', hh])⟩
    obtain ⟨ha, hb1, rs, hc1, hd, he⟩ := h1 p hp
    rw [← hb p hp, ← hc p hp]
    exact ⟨ha, hb1, rs, hc1, hd, fun q hq => by rw [he q hq, h p q hp hq]⟩
  · rintro q ⟨p, hp, rfl⟩
    exact ⟨p, hp, (hb p hp).symm⟩

/-- A row that the call has made goes to the others. -/
theorem rowsM.add {A : Option Addr} {c : Nat} {f : Nat → Int} {cell : Nat → Nat → Value} (S : St w0 F0 (ownM e 1 A m c cell :: rowsM e k m rb rc M :: R) w) (hA : A ≠ none) (hf : ∀ j, j < m → cell j 0 = .int .i64 (f j)) :
    ∃ b, A = some ⟨b, 0, none⟩ ∧ St w0 F0 (rowsM e (k + 1) m (updN rb k b) (updN rc k c) (mrow M k f) :: R) w := by
  have h0 := S.holds (i := 0) rfl
  rcases h0 with ⟨h, _, _⟩ | ⟨b, cs, rfl, hb, hnc, hcm, hsz, hc⟩
  · exact absurd h hA
  refine ⟨b, rfl, ?_⟩
  obtain ⟨h1, h2⟩ := S.holds (i := 1) rfl
  have hne : ∀ i, i < k → rb i ≠ b := fun i hi e1 => S.disj 0 1 _ _ rfl rfl (by omega) b ⟨_, rfl, rfl⟩ ⟨i, hi, e1.symm⟩
  have hfp : ∀ q, (rowsM e (k + 1) m (updN rb k b) (updN rc k c) (mrow M k f)).fp q → (ownM e 1 (some ⟨b, 0, none⟩) m c cell).fp q ∨ (rowsM e k m rb rc M).fp q := by
    rintro q ⟨i, hi, rfl⟩
    by_cases hik : i = k
    · subst hik; exact .inl ⟨_, rfl, by simp [updN]⟩
    · exact .inr ⟨i, by omega, by simp [updN, hik]⟩
  refine ⟨S.os, S.tape, S.out, S.size, S.ro, ?_, ?_, ?_⟩
  · intro x hx
    rcases List.mem_cons.1 hx with rfl | hx
    · refine ⟨fun i hi => ?_, ?_⟩
      · by_cases hik : i = k
        · subst hik
          simp only [updN, if_pos]
          refine ⟨hnc, hcm, cs, hb, by omega, fun j hj => ?_⟩
          have := hc j 0 hj (by omega)
          simp only [Nat.mul_one, Nat.add_zero] at this
          rw [this, hf j hj]; simp [mrow]
        · simp only [updN, if_neg hik]
          obtain ⟨ha, hb1, rs, hc1, hd, he⟩ := h1 i (by omega)
          exact ⟨ha, hb1, rs, hc1, hd, fun j hj => by rw [he j hj]; simp [mrow, hik]⟩
      · intro i i' hi hi' heq
        simp only [updN] at heq
        by_cases hik : i = k <;> by_cases hik' : i' = k
        · omega
        · rw [if_pos hik, if_neg hik'] at heq; exact absurd heq.symm (hne i' (by omega))
        · rw [if_neg hik, if_pos hik'] at heq; exact absurd heq (hne i (by omega))
        · rw [if_neg hik, if_neg hik'] at heq; exact h2 i i' (by omega) (by omega) heq
    · exact S.res x (List.mem_cons_of_mem _ (List.mem_cons_of_mem _ hx))
  · intro x hx q hq
    rcases List.mem_cons.1 hx with rfl | hx
    · rcases hfp q hq with h | h
      · exact S.inn _ (List.mem_cons_self ..) q h
      · exact S.inn _ (List.mem_cons_of_mem _ (List.mem_cons_self ..)) q h
    · exact S.inn x (List.mem_cons_of_mem _ (List.mem_cons_of_mem _ hx)) q hq
  · intro i j x y hi hj hij q hq hq'
    cases i with
    | zero =>
      cases j with
      | zero => omega
      | succ j =>
        simp at hi hj; subst hi
        rcases hfp q hq with h | h
        · exact S.disj 0 (j + 2) _ y rfl hj (by omega) q h hq'
        · exact S.disj 1 (j + 2) _ y rfl hj (by omega) q h hq'
    | succ i =>
      cases j with
      | zero =>
        simp at hi hj; subst hj
        rcases hfp q hq' with h | h
        · exact S.disj (i + 2) 0 x _ hi rfl (by omega) q hq h
        · exact S.disj (i + 2) 1 x _ hi rfl (by omega) q hq h
      | succ j =>
        simp at hi hj
        exact S.disj (i + 2) (j + 2) x y hi hj (by omega) q hq hq'

end
end Go.Proofs.Ytopmadlgolnmfaa

namespace Go.Proofs.Ytopmadlgolnmfaa
set_option linter.unusedVariables false
set_option linter.unusedSimpArgs false
section
variable {w0 w w' : World} {F0 F : Nat → Prop} {R M : List Mem} {sz n c : Nat} {A : Option Addr} {cell : Nat → Nat → Value} {e : TypeId}
/-- A slice that is only read stays so while a callee changes what is owned. -/
theorem InS.nowR (h : InS w0 F0 sz A n cell) (S : St w0 F0 R w) : InS w (fps R) sz A n cell := by
  intro hn
  obtain ⟨b, o, rfl, hb, hF, hc⟩ := h hn
  refine ⟨b, o, rfl, Nat.lt_of_lt_of_le hb S.size, fun ⟨m, hm, hk⟩ => hF ((S.inn m hm b hk).2 hb), fun k j hk hj => ?_⟩
  rw [← hc k j hk hj]
  exact World.cell?_of_block (w := w0) (S.ro b hb hF)
end
section
open Go.RowKit
variable {P : Program} {w : World} {N : FN} {L : List (Nat × Value)} {a : Act}
end
end Go.Proofs.Ytopmadlgolnmfaa

namespace Go.Proofs.Ytopmadlgolnmfaa
set_option linter.unusedVariables false
set_option linter.unusedSimpArgs false
open Go.RowKit
section
variable {P : Program} {ops : Array Oper} {w w0 : World} {F0 : Nat → Prop} {R : List Mem} {Q : Exit → Act → World → Prop} {rest l : List Oper} {N : FN} {L : List (Nat × Value)} {a : Act} {ty : TypeId} {pos : String} {af : Array Edge} {op : Op}
theorem wp_only {o : Oper} {K K' : Act → World → Prop} {K1 : Act → World → Prop} (h : o.wp P a w K (onlyN K1)) (hK : ∀ a w, K a w → K' a w) : o.wp P a w K' Q :=
  Oper.wp_mono hK (upon_q (upon_only h))
theorem wpList_append {l2 : List Oper} : ∀ (l1 : List Oper) (a : Act) (w : World), wpList P ops (onlyN fun a w => wpList P ops Q l2 a w) l1 a w → wpList P ops Q (l1 ++ l2) a w := by
  intro l1
  induction l1 with
  | nil => intro a w h; exact h
  | cons o l1 ih =>
    intro a w h
    simp only [List.cons_append]
    unfold wpList at h ⊢
    split
    · rename_i hw
      rw [if_pos hw] at h
      rcases h with h | ⟨_, _, _, h⟩
      · exact .inl (wp_only h ih)
      · exact h.elim
    · rename_i hw
      rw [if_neg hw] at h
      exact ih _ _ h
theorem wpList_only {K K' : Act → World → Prop} (hK : ∀ a w, K a w → K' a w) : ∀ (l : List Oper) (a : Act) (w : World), wpList P ops (onlyN K) l a w → wpList P ops (onlyN K') l a w := by
  intro l
  induction l with
  | nil => intro a w h; exact hK a w h
  | cons o l ih =>
    intro a w h
    unfold wpList at h ⊢
    split
    · rename_i hw
      rw [if_pos hw] at h
      rcases h with h | ⟨_, _, _, h⟩
      · exact .inl (wp_only h ih)
      · exact h.elim
    · rename_i hw
      rw [if_neg hw] at h
      exact ih _ _ h
theorem list_yes' {d : Option Nat} {i g : Nat} {b c : Bool} (H : Fr N L a) (hg : (ops[i]?).bind (·.dst) = some g) (hc : look L g = some (.bool c)) (e : c = b)
    (k : wpList P ops Q (⟨d, op, ty, pos, af, none⟩ :: rest) a w) : wpList P ops Q (⟨d, op, ty, pos, af, some (i, b)⟩ :: rest) a w := by
  subst e
  exact list_yes H hg hc k
theorem wanted_un {d : Option Nat} {i g : Nat} {b : Bool} (H : Fr N L a) (hg : (ops[i]?).bind (·.dst) = some g) (hc : look L g = some undef) :
    Region.wanted ⟨d, op, ty, pos, af, some (i, b)⟩ (yielded ops a.tmps) = false :=
  not_wanted fun s hs q hq => by
    rw [hg, Option.some.injEq] at hs
    subst hs
    rw [H.at_ _ _ hc] at hq
    simp [undef] at hq
theorem list_un {d i g : Nat} {b : Bool} (H : Fr N L a) (hg : (ops[i]?).bind (·.dst) = some g) (hc : look L g = some undef) (hd : Nat.blt d N.n = true)
    (k : ∀ a', Fr N ((d, undef) :: L) a' → wpList P ops Q rest a' w) : wpList P ops Q (⟨some d, op, ty, pos, af, some (i, b)⟩ :: rest) a w := by
  unfold wpList
  rw [if_neg (by rw [wanted_un H hg hc]; simp)]
  exact k _ (H.put _ hd)
theorem list_guard {i g t : Nat} {b c : Bool} {v : Value} (m : Nat) (H : Fr N L a) (S : St w0 F0 R w) (hg : (ops[i]?).bind (·.dst) = some g) (hc : look L g = some (.bool c))
    (hs : skips ops i g b [] (l.take m) = true) (hw : writes t (l.take m) = true) (hcl : clean L (l.take m) = true) (ht : Nat.blt t N.n = true)
    (h1 : c = b → wpList P ops (onlyN fun a' w' => Fr N ((t, v) :: L) a' ∧ St w0 F0 R w') (l.take m) a w)
    (k : ∀ a' w', Fr N ((t, gv c b v) :: L) a' → St w0 F0 R w' → wpList P ops Q (l.drop m) a' w') : wpList P ops Q l a w := by
  by_cases e : c = b
  · have h2 := wpList_append (P := P) (ops := ops) (Q := Q) (l2 := l.drop m) (l.take m) a w (wpList_only (fun a' w' ⟨h3, h4⟩ => k a' w' (by simpa [gv, e] using h3) h4) _ _ _ (h1 e))
    rwa [List.take_append_drop] at h2
  · refine list_still m ?_
    refine still_skip hg e (l.take m) [] a H (H.at_ _ _ hc) (by simp) hs hcl fun a' H' h' => k a' w ?_ S
    have hlt : t < N.n := by simpa using ht
    have := h' t (.inr hw) hlt
    refine ⟨H'.size, H'.defs, fun s u hu => ?_⟩
    simp only [look] at hu
    cases hb : Nat.beq t s
    · rw [hb] at hu; exact H'.at_ s u hu
    · rw [hb] at hu
      have := Nat.eq_of_beq_eq_true hb
      subst this
      simp only [cond_true, Option.some.injEq] at hu
      subst hu
      have e' : (c == b) = false := by simpa using e
      simpa [gv, e'] using this
end
end Go.Proofs.Ytopmadlgolnmfaa

namespace Go.Proofs.Ytopmadlgolnmfaa
set_option linter.unusedVariables false
set_option linter.unusedSimpArgs false
open Go.RowKit
theorem wq_un {P : Program} {ops : Array Oper} {w : World} {N : FN} {L : List (Nat × Value)} {a : Act} {ty : TypeId} {pos : String} {af : Array Edge} {op : Op} {C : World → Prop} {Qn : Act → World → Prop} {π : List (Nat × Bool)} {i d j g : Nat} {b : Bool} (H : Fr N L a) (hi : ops[i]? = some ⟨some d, op, ty, pos, af, some (j, b)⟩) (hd : Nat.blt d N.n = true) (hg : (ops[j]?).bind (·.dst) = some g) (hc : look L g = some undef)
    (k : ∀ a', Fr N ((d, undef) :: L) a' → wq P ops C Qn π a' w) : wq P ops C Qn ((i, true) :: π) a w :=
  ⟨_, undef, hi, .inr ⟨wanted_un H hg hc, rfl⟩, k _ (H.put undef hd)⟩
end Go.Proofs.Ytopmadlgolnmfaa

namespace Go.Proofs.Ytopmadlgolnmfaa
set_option linter.unusedVariables false
set_option linter.unusedSimpArgs false
open Go.RowKit

theorem o1 {a b : Bool} : ((a || b) = true) = (a = true ∨ b = true) := Bool.or_eq_true a b
theorem o2 {a b : Bool} : ((a && b) = true) = (a = true ∧ b = true) := Bool.and_eq_true a b
theorem o3 {a : Bool} : ((!a) = true) = (a = false) := Bool.not_eq_true' a
theorem o4 {a b : Bool} : ((a || b) = false) ↔ (a = false ∧ b = false) := Bool.or_eq_false_iff
theorem o5 {a b : Bool} : ((a && b) = false) ↔ (a = false ∨ b = false) := Bool.and_eq_false_iff
theorem o6 {a : Bool} : ((!a) = false) = (a = true) := Bool.not_eq_false' a
theorem o7 {p : Prop} [Decidable p] : (decide p = true) = p := decide_eq_true_eq
theorem o8 {p : Prop} [Decidable p] : (decide p = false) = (¬ p) := by rw [decide_eq_false_iff_not]
theorem o9 {a b : Int} : ¬ a < b ↔ b ≤ a := Int.not_lt
theorem oa {a b : Int} : ¬ a ≤ b ↔ b < a := Int.not_le
/-- What an operation yields that needs no proof. -/
def exec1 (L : List (Nat × Value)) : Op → Option Value
  | .move x => ev L x
  | .assign x => ev L x
  | .nilCheck x => match ev L x with
    | some (.pointer (some a)) => some (.pointer (some a))
    | _ => none
  | .extract x i => match ev L x with
    | some (.tuple vs) => vs[i]?
    | _ => none
  | .unOp .not _ x => match ev L x with
    | some (.bool b) => some (.bool (!b))
    | _ => none
  | .binOp op _ x y _ => match ev L x with
    | some (.int .i64 m) => match ev L y with
      | some (.int .i64 n) => match op with
        | .lss => some (.bool (decide (m < n)))
        | .leq => some (.bool (decide (m ≤ n)))
        | .gtr => some (.bool (decide (n < m)))
        | .geq => some (.bool (decide (n ≤ m)))
        | .eql => some (.bool (decide (m = n)))
        | .neq => some (.bool (!decide (m = n)))
        | _ => none
      | _ => none
    | _ => none
  | .makeFunc fn xs ys => match evs L xs.toList with
    | some us => match evs L ys.toList with
      | some vs => some (.func fn us.toArray vs.toArray)
      | none => none
    | none => none
  | _ => none

section
variable {P : Program} {L : List (Nat × Value)} {w : World} {ty : TypeId} {pos : String} {af : Array Edge} {d : Option Nat} {g : Option (Nat × Bool)}
theorem exec1_ok {op : Op} {v : Value} (h : exec1 L op = some v) : Does P L ⟨d, op, ty, pos, af, g⟩ w v := by
  cases op <;> simp only [exec1] at h <;> try (cases h; done)
  case move x => exact does_move h
  case assign x => exact does_assign h
  case nilCheck x =>
    split at h
    · rename_i a ha; cases h; exact does_nilCheck ha
    · cases h
  case extract x i =>
    split at h
    · rename_i vs hv; exact does_extract hv h
    · cases h
  case unOp u t x =>
    cases u <;> simp only at h <;> try (cases h; done)
    split at h
    · rename_i b hb; cases h; exact does_not hb
    · cases h
  case binOp op xt x y yt =>
    split at h
    · rename_i m hm
      split at h
      · rename_i n hn
        cases op <;> simp only at h <;> cases h
        · exact does_eql hm hn
        · exact does_neq hm hn
        · exact does_lss hm hn
        · exact does_leq hm hn
        · exact does_gtr hm hn
        · exact does_geq hm hn
      · cases h
    · cases h
  case makeFunc fn xs ys =>
    split at h
    · rename_i us hu
      split at h
      · rename_i vs hv; cases h; exact does_makeFunc hu hv
      · cases h
    · cases h
end

def run (N : FN) : Nat → List Oper → List (Nat × Value) → Option (List Oper × List (Nat × Value))
  | 0, l, L => some (l, L)
  | n + 1, ⟨some d, op, _, _, _, none⟩ :: l, L => match exec1 L op with
    | some v => match Nat.blt d N.n with
      | true => run N n l ((d, v) :: L)
      | false => none
    | none => none
  | _ + 1, _, _ => none

section
variable {P : Program} {ops : Array Oper} {w w0 : World} {F0 : Nat → Prop} {R : List Mem} {Q : Exit → Act → World → Prop} {Qs : Act → Prop} {rest l l' : List Oper} {N : FN} {L L' : List (Nat × Value)} {a : Act} {ty : TypeId} {pos : String} {af : Array Edge} {op : Op} {d : Nat}

def SF (P : Program) (ops : Array Oper) (w : World) (Qs : Act → Prop) (N : FN) (l : List Oper) (L : List (Nat × Value)) : Prop := ∀ a, Fr N L a → wpStill P ops w Qs l a

theorem sF (H : Fr N L a) (h : SF P ops w Qs N l L) : wpStill P ops w Qs l a := h a H
theorem sE (h : ∀ a, Fr N L a → Qs a) : SF P ops w Qs N [] L := fun a H => wpStill_nil (h a H)
/-- One operation. -/
theorem sd {v : Value} (h : Does P L ⟨some d, op, ty, pos, af, none⟩ w v) (k : SF P ops w Qs N rest ((d, v) :: L)) (hd : Nat.blt d N.n = true := by rfl) : SF P ops w Qs N (⟨some d, op, ty, pos, af, none⟩ :: rest) L :=
  fun a H => still_does H hd h k

theorem sr1 : ∀ (n : Nat) (l : List Oper) (L : List (Nat × Value)), run N n l L = some (l', L') → SF P ops w Qs N l' L' → SF P ops w Qs N l L := by
  intro n
  induction n with
  | zero => intro l L h k; simp only [run, Option.some.injEq, Prod.mk.injEq] at h; obtain ⟨rfl, rfl⟩ := h; exact k
  | succ n ih =>
    intro l L h k
    cases l with
    | nil => simp only [run] at h; cases h
    | cons o l =>
      obtain ⟨d, op, ty, pos, af, gd⟩ := o
      cases d with
      | none => simp only [run] at h; cases h
      | some d =>
        cases gd with
        | some _ => simp only [run] at h; cases h
        | none =>
          simp only [run] at h
          split at h
          · rename_i v hv
            split at h
            · rename_i hd
              exact sd (exec1_ok hv) (ih _ _ h k) hd
            · cases h
          · cases h
/-- Some operations that need no proof. -/
theorem sr (n : Nat) (h : run N n l L = some (l', L')) (k : SF P ops w Qs N l' L') : SF P ops w Qs N l L := sr1 n l L h k

/-- The next operation runs: its guard is as it must be. -/
theorem sy {dd : Option Nat} {i g : Nat} {b c : Bool} (e : c = b) (k : SF P ops w Qs N (⟨dd, op, ty, pos, af, none⟩ :: rest) L) (hg : (ops[i]?).bind (·.dst) = some g := by rfl) (hc : look L g = some (.bool c) := by rfl) :
    SF P ops w Qs N (⟨dd, op, ty, pos, af, some (i, b)⟩ :: rest) L := fun a H => still_yes' H hg hc e (k a H)
/-- It does not. -/
theorem sn {i g : Nat} {b c : Bool} (hg : (ops[i]?).bind (·.dst) = some g) (hc : look L g = some (.bool c)) (hne : (c == b) = false) (k : SF P ops w Qs N rest ((d, undef) :: L)) (hd : Nat.blt d N.n = true := by rfl) :
    SF P ops w Qs N (⟨some d, op, ty, pos, af, some (i, b)⟩ :: rest) L := fun a H => still_no H hg hc hne hd k

/-- A stretch under a guard. -/
theorem sg (m i g t : Nat) (b : Bool) {c : Bool} {v : Value} (hg : (ops[i]?).bind (·.dst) = some g) (hc : look L g = some (.bool c))
    (h1 : c = b → SF P ops w (fun a' => Fr N ((t, v) :: L) a') N (l.take m) L) (k : SF P ops w Qs N (l.drop m) ((t, gv c b v) :: L))
    (hs : skips ops i g b [] (l.take m) = true := by kernel_rfl) (hw : writes t (l.take m) = true := by kernel_rfl) (hcl : clean L (l.take m) = true := by rfl) (ht : Nat.blt t N.n = true := by rfl) : SF P ops w Qs N l L :=
  fun a H => still_guard m H hg hc hs hw hcl ht (fun e => h1 e a H) k
/-- Its end. -/
theorem sz {t : Nat} {v : Value} {X : List (Nat × Value)} (k : Nat) (ht : look X t = some v) (hc : cleanK k X = true) (hL : X.drop k = L) : SF P ops w (fun a' => Fr N ((t, v) :: L) a') N [] X :=
  fun a H => by subst hL; exact wpStill_nil (H.strip k ht hc)

/-! one operation of each kind -/
theorem sl {x : Operand} {t b off bt : Nat} {cs : List Value} {v : Value} (S : St w0 F0 R w) (j : Nat) (h1 : One P t) (hx : ev L x = some (.pointer (some ⟨b, off, none⟩))) (hi : R[j]? = some (boxM b bt cs)) (hv : cs[off]? = some v)
    (k : SF P ops w Qs N rest ((d, v) :: L)) (hd : Nat.blt d N.n = true := by rfl) : SF P ops w Qs N (⟨some d, .load t x, ty, pos, af, none⟩ :: rest) L := sd (does_load h1 hx (boxM.rd S hi hv)) k hd
theorem slm {x : Operand} {t : Nat} {a : Addr} {v : Value} (h1 : One P t) (hx : ev L x = some (.pointer (some a))) (h : w.cell? a = some v)
    (k : SF P ops w Qs N rest ((d, v) :: L)) (hd : Nat.blt d N.n = true := by rfl) : SF P ops w Qs N (⟨some d, .load t x, ty, pos, af, none⟩ :: rest) L := sd (does_load h1 hx h) k hd
theorem sf {x : Operand} {t f off b o : Nat} (h : FOff P t f off) (hx : ev L x = some (.pointer (some ⟨b, o, none⟩))) (k : SF P ops w Qs N rest ((d, .pointer (some ⟨b, o + off, none⟩)) :: L)) (hd : Nat.blt d N.n = true := by rfl) :
    SF P ops w Qs N (⟨some d, .fieldAddr t x f, ty, pos, af, none⟩ :: rest) L := sd (does_field h hx) k hd
theorem sp {x : Operand} {t f off sz k j : Nat} {A : Option Addr} (h : FOff P t f off) (hx : ev L x = some (.pointer (some (pt A sz k j)))) (K : SF P ops w Qs N rest ((d, .pointer (some (pt A sz k (j + off)))) :: L)) (hd : Nat.blt d N.n = true := by rfl) :
    SF P ops w Qs N (⟨some d, .fieldAddr t x f, ty, pos, af, none⟩ :: rest) L := sd (does_field_pt h hx) K hd
theorem si {x i : Operand} {t e s : Nat} {A : Option Addr} {n c : Nat} {q : IntKind} {j : Nat} (ht : SlT P t e) (hs : Sz P e s) (hx : ev L x = some (.slice A n c)) (hi : ev L i = some (.int q (j : Int)))
    (hA : A = some ⟨(adr A).block, (adr A).off, none⟩) (hn : j < n) (k : SF P ops w Qs N rest ((d, .pointer (some (pt A s j 0))) :: L)) (hd : Nat.blt d N.n = true := by rfl) :
    SF P ops w Qs N (⟨some d, .indexAddr t x i, ty, pos, af, none⟩ :: rest) L := sd (does_indexN ht hs hx hi hA hn) k hd
theorem sI {x i : Operand} {t e s : Nat} {A : Option Addr} {n c : Nat} {q : IntKind} {j : Int} (ht : SlT P t e) (hs : Sz P e s) (hx : ev L x = some (.slice A n c)) (hi : ev L i = some (.int q j))
    (hA : A = some ⟨(adr A).block, (adr A).off, none⟩) (h0 : 0 ≤ j) (hn : j < n) (k : SF P ops w Qs N rest ((d, .pointer (some (pt A s j.toNat 0))) :: L)) (hd : Nat.blt d N.n = true := by rfl) :
    SF P ops w Qs N (⟨some d, .indexAddr t x i, ty, pos, af, none⟩ :: rest) L := sd (does_index ht hs hx hi hA h0 hn) k hd
theorem sL {x : Operand} {t e : Nat} {A : Option Addr} {n c : Nat} (ht : SlT P t e) (hx : ev L x = some (.slice A n c)) (k : SF P ops w Qs N rest ((d, .int .i64 (n : Int)) :: L)) (hd : Nat.blt d N.n = true := by rfl) :
    SF P ops w Qs N (⟨some d, .call ⟨.builtin .len, #[x], #[t]⟩, ty, pos, af, none⟩ :: rest) L := sd (does_len ht hx) k hd
theorem so {c x y : Operand} {b r : Bool} (hc : ev L c = some (.bool b)) (hx : ev L x = some (.bool true)) (hy : ev L y = some (gv b false (.bool r))) (k : SF P ops w Qs N rest ((d, .bool (b || r)) :: L)) (hd : Nat.blt d N.n = true := by rfl) :
    SF P ops w Qs N (⟨some d, .pick c x y, ty, pos, af, none⟩ :: rest) L := sd (does_or hc hx hy) k hd
theorem sa {c x y : Operand} {b r : Bool} (hc : ev L c = some (.bool b)) (hx : ev L x = some (gv b true (.bool r))) (hy : ev L y = some (.bool false)) (k : SF P ops w Qs N rest ((d, .bool (b && r)) :: L)) (hd : Nat.blt d N.n = true := by rfl) :
    SF P ops w Qs N (⟨some d, .pick c x y, ty, pos, af, none⟩ :: rest) L := sd (does_and hc hx hy) k hd
theorem sc {f : Nat} {fn : Func} {xs : Array Operand} {ats : Array TypeId} {vs : List Value} {v : Value} (hxs : evs L xs.toList = some vs)
    (hf : P.funcs[f]? = some fn) (hb : fn.body.isNone = false) (hn : (fn.name == "runtime.NumGoroutine") = false)
    (hc : Calls P f vs.toArray w (Ret fun u w' => u = v ∧ w' = w)) (k : SF P ops w Qs N rest ((d, v) :: L)) (hd : Nat.blt d N.n = true := by rfl) :
    SF P ops w Qs N (⟨some d, .call ⟨.value (.func f), xs, ats⟩, ty, pos, af, none⟩ :: rest) L := fun a H => still_call H hd hxs hf hb hn hc k

/-! in a list that also writes -/
theorem ls (m : Nat) (H : Fr N L a) (h : SF P ops w (fun a' => wpList P ops Q (l.drop m) a' w) N (l.take m) L) : wpList P ops Q l a w := list_still m (h a H)

/-! ## regions that read at the most -/
theorem sS {y : Code} {id : Nat} (H : Fr N L a) (h : ∀ K : Act → Prop, (∀ a, y.wp P Q a w → K a) → SF P l.toArray w K N l L) : (Code.seq (.region id l.toArray false) y).wp P Q a w := seq_still fun K hK => h K hK a H
theorem sO {id : Nat} (H : Fr N L a) (h : SF P l.toArray w (fun a => Q .normal a w) N l L) : (Code.region id l.toArray false).wp P Q a w := one_still (h a H)
theorem sD {y : Code} {id : Nat} (H : Fr N L a) (h : ∀ K : Act → Prop, (∀ a, y.wp P Q a w.drew → K a) → SF P l.toArray w.drew K N l L) (hm : P.follows .mixedOrders = true := by kernel_rfl) (hB : Region.lexB .any l.toArray = true := by kernel_rfl) :
    (Code.seq (.region id l.toArray true) y).wp P Q a w := seq_stillD hm hB fun K hK => h K hK a H
theorem sP {id : Nat} (H : Fr N L a) (h : SF P l.toArray w.drew (fun a => Q .normal a w.drew) N l L) (hm : P.follows .mixedOrders = true := by kernel_rfl) (hB : Region.lexB .any l.toArray = true := by kernel_rfl) : (Code.region id l.toArray true).wp P Q a w := one_stillD hm hB (h a H)

/-! ## tests -/
variable {x y : Code} {t : Nat} {m n : Int}
theorem condL (H : Fr N L a) (hc : look L t = some (.bool (decide (m < n)))) (h1 : m < n → x.wp P Q a w) (h2 : n ≤ m → y.wp P Q a w) : (Code.cond (.tmp t) x y).wp P Q a w :=
  cond_ H hc (fun h => h1 (by simpa using h)) (fun h => h2 (by simpa using h))
theorem condG (H : Fr N L a) (hc : look L t = some (.bool (decide (m ≤ n)))) (h1 : m ≤ n → x.wp P Q a w) (h2 : n < m → y.wp P Q a w) : (Code.cond (.tmp t) x y).wp P Q a w :=
  cond_ H hc (fun h => h1 (by simpa using h)) (fun h => h2 (by simpa using h))
theorem condE (H : Fr N L a) (hc : look L t = some (.bool (decide (m = n)))) (h1 : m = n → x.wp P Q a w) (h2 : ¬ m = n → y.wp P Q a w) : (Code.cond (.tmp t) x y).wp P Q a w :=
  cond_ H hc (fun h => h1 (by simpa using h)) (fun h => h2 (by simpa using h))
theorem condN (H : Fr N L a) (hc : look L t = some (.bool (!decide (m = n)))) (h1 : ¬ m = n → x.wp P Q a w) (h2 : m = n → y.wp P Q a w) : (Code.cond (.tmp t) x y).wp P Q a w :=
  cond_ H hc (fun h => h1 (by simpa using h)) (fun h => h2 (by simpa using h))
end

/-! ## statements in an open order -/
def runq (N : FN) (ops : Array Oper) : Nat → List (Nat × Bool) → List (Nat × Value) → Option (List (Nat × Bool) × List (Nat × Value))
  | 0, π, L => some (π, L)
  | n + 1, (i, true) :: π, L => match ops[i]? with
    | some ⟨some d, op, _, _, _, none⟩ => match exec1 L op with
      | some v => match Nat.blt d N.n with
        | true => runq N ops n π ((d, v) :: L)
        | false => none
      | none => none
    | _ => none
  | _ + 1, _, _ => none

section
variable {P : Program} {ops : Array Oper} {w w0 : World} {C : World → Prop} {Qn : Act → World → Prop} {π π' : List (Nat × Bool)} {N : FN} {L L' : List (Nat × Value)} {a : Act} {ty : TypeId} {pos : String} {af : Array Edge} {op : Op} {d i : Nat}
def QF (P : Program) (ops : Array Oper) (C : World → Prop) (Qn : Act → World → Prop) (w : World) (N : FN) (π : List (Nat × Bool)) (L : List (Nat × Value)) : Prop := ∀ a, Fr N L a → wq P ops C Qn π a w
theorem qF (H : Fr N L a) (h : QF P ops C Qn w N π L) : wq P ops C Qn π a w := h a H
theorem qK (h : ∀ a, Fr N L a → wq P ops C Qn π a w) : QF P ops C Qn w N π L := h
theorem qd {v : Value} (hi : ops[i]? = some ⟨some d, op, ty, pos, af, none⟩) (h : ∀ w', C w' → Does P L ⟨some d, op, ty, pos, af, none⟩ w' v) (k : QF P ops C Qn w N π ((d, v) :: L)) (hd : Nat.blt d N.n = true := by rfl) : QF P ops C Qn w N ((i, true) :: π) L :=
  fun a H => wq_does H hi hd h k
theorem qr1 : ∀ (n : Nat) (π : List (Nat × Bool)) (L : List (Nat × Value)), runq N ops n π L = some (π', L') → QF P ops C Qn w N π' L' → QF P ops C Qn w N π L := by
  intro n
  induction n with
  | zero => intro π L h k; simp only [runq, Option.some.injEq, Prod.mk.injEq] at h; obtain ⟨rfl, rfl⟩ := h; exact k
  | succ n ih =>
    intro π L h k
    cases π with
    | nil => simp only [runq] at h; cases h
    | cons p π =>
      obtain ⟨i, b⟩ := p
      cases b with
      | false => simp only [runq] at h; cases h
      | true =>
        simp only [runq] at h
        split at h
        · rename_i d op _ _ _ ho
          split at h
          · rename_i v hv
            split at h
            · rename_i hd
              exact qd ho (fun _ _ => exec1_ok hv) (ih _ _ h k) hd
            · cases h
          · cases h
        · cases h
theorem qr (n : Nat) (h : runq N ops n π L = some (π', L')) (k : QF P ops C Qn w N π' L') : QF P ops C Qn w N π L := qr1 n π L h k
end
end Go.Proofs.Ytopmadlgolnmfaa

namespace Go.Proofs.Ytopmadlgolnmfaa
set_option linter.unusedVariables false
set_option linter.unusedSimpArgs false
open Go.RowKit
section
variable {P : Program} {ops : Array Oper} {w w0 : World} {F0 F : Nat → Prop} {R : List Mem} {Q : Exit → Act → World → Prop} {rest : List Oper} {N : FN} {L : List (Nat × Value)} {a : Act} {ty : TypeId} {pos : String} {af : Array Edge}
end
end Go.Proofs.Ytopmadlgolnmfaa

namespace Go.Proofs.Ytopmadlgolnmfaa
set_option linter.unusedVariables false
set_option linter.unusedSimpArgs false
open Go.RowKit

section
variable {w w0 : World} {F0 : Nat → Prop} {R : List Mem} {m m1 m2 : Mem}

/-- One part as two. -/
theorem St.split (S : St w0 F0 R w) {i : Nat} (hi : R[i]? = some m) (h1 : m1.holds w) (h2 : m2.holds w) (f1 : ∀ k, m1.fp k → m.fp k) (f2 : ∀ k, m2.fp k → m.fp k) (hd : ∀ k, m1.fp k → ¬ m2.fp k) : St w0 F0 (m1 :: R.set i m2) w := by
  have hmR : m ∈ R := List.mem_of_getElem? hi
  refine ⟨S.os, S.tape, S.out, S.size, S.ro, ?_, ?_, ?_⟩
  · intro x hx
    rcases List.mem_cons.1 hx with rfl | hx
    · exact h1
    · obtain ⟨j, hj⟩ := List.getElem?_of_mem hx
      rcases get_set hi hj with ⟨_, rfl⟩ | ⟨_, hxj⟩
      · exact h2
      · exact S.res x (List.mem_of_getElem? hxj)
  · intro x hx k hk
    rcases List.mem_cons.1 hx with rfl | hx
    · exact S.inn m hmR k (f1 k hk)
    · obtain ⟨j, hj⟩ := List.getElem?_of_mem hx
      rcases get_set hi hj with ⟨_, rfl⟩ | ⟨_, hxj⟩
      · exact S.inn m hmR k (f2 k hk)
      · exact S.inn x (List.mem_of_getElem? hxj) k hk
  · have key : ∀ (j : Nat) (b : Mem), (R.set i m2)[j]? = some b → ∀ k, m1.fp k → ¬ b.fp k := by
      intro j b hb k hk hk'
      rcases get_set hi hb with ⟨_, rfl⟩ | ⟨hji, hbj⟩
      · exact hd k hk hk'
      · exact S.disj i j m b hi hbj (fun e => hji e.symm) k (f1 k hk) hk'
    intro p q a b hp hq hpq k hk hk'
    cases p with
    | zero =>
      cases q with
      | zero => exact hpq rfl
      | succ q => simp at hp hq; subst hp; exact key q b hq k hk hk'
    | succ p =>
      cases q with
      | zero => simp at hp hq; subst hq; exact key p a hp k hk' hk
      | succ q =>
        simp at hp hq
        rcases get_set hi hp with ⟨ep, rfl⟩ | ⟨hpi, hap⟩ <;> rcases get_set hi hq with ⟨eq, rfl⟩ | ⟨hqi, hbq⟩
        · omega
        · exact S.disj i q m b hi hbq (fun e => hqi e.symm) k (f2 k hk) hk'
        · exact S.disj p i a m hap hi hpi k hk (f2 k hk')
        · exact S.disj p q a b hap hbq (by omega) k hk hk'

/-- Two parts as one. -/
theorem St.merge (S : St w0 F0 (m1 :: R) w) {i : Nat} (hi : R[i]? = some m2) (h : m.holds w) (f : ∀ k, m.fp k → m1.fp k ∨ m2.fp k) : St w0 F0 (R.set i m) w := by
  have h2R : m2 ∈ m1 :: R := List.mem_cons_of_mem _ (List.mem_of_getElem? hi)
  refine ⟨S.os, S.tape, S.out, S.size, S.ro, ?_, ?_, ?_⟩
  · intro x hx
    obtain ⟨j, hj⟩ := List.getElem?_of_mem hx
    rcases get_set hi hj with ⟨_, rfl⟩ | ⟨_, hxj⟩
    · exact h
    · exact S.res x (List.mem_cons_of_mem _ (List.mem_of_getElem? hxj))
  · intro x hx k hk
    obtain ⟨j, hj⟩ := List.getElem?_of_mem hx
    rcases get_set hi hj with ⟨_, rfl⟩ | ⟨_, hxj⟩
    · rcases f k hk with h | h
      · exact S.inn m1 (List.mem_cons_self ..) k h
      · exact S.inn m2 h2R k h
    · exact S.inn x (List.mem_cons_of_mem _ (List.mem_of_getElem? hxj)) k hk
  · have key : ∀ (j : Nat) (b : Mem), j ≠ i → R[j]? = some b → ∀ k, m.fp k → ¬ b.fp k := by
      intro j b hj hb k hk hk'
      rcases f k hk with h | h
      · exact S.disj 0 (j + 1) m1 b rfl (by simpa using hb) (by omega) k h hk'
      · exact S.disj (i + 1) (j + 1) m2 b (by simpa using hi) (by simpa using hb) (by omega) k h hk'
    intro p q a b hp hq hpq k hk hk'
    rcases get_set hi hp with ⟨ep, rfl⟩ | ⟨hpi, hap⟩ <;> rcases get_set hi hq with ⟨eq, rfl⟩ | ⟨hqi, hbq⟩
    · omega
    · exact key q b hqi hbq k hk hk'
    · exact key p a hpi hap k hk' hk
    · exact S.disj (p + 1) (q + 1) a b (by simpa using hap) (by simpa using hbq) (by omega) k hk hk'
end

def ragM (e sz : Nat) (D : Nat → Prop) (A : Nat → Option Addr) (n c : Nat → Nat) (cell : Nat → Nat → Nat → Value) : Mem where
  fp := fun k => ∃ i, D i ∧ (ownM e sz (A i) (n i) (c i) (cell i)).fp k
  holds := fun w => (∀ i, D i → (ownM e sz (A i) (n i) (c i) (cell i)).holds w) ∧ ∀ i j, D i → D j → i ≠ j → ∀ k, (ownM e sz (A i) (n i) (c i) (cell i)).fp k → ¬ (ownM e sz (A j) (n j) (c j) (cell j)).fp k
  stable := fun w w' h ⟨h1, h2⟩ => ⟨fun i hi => (ownM e sz (A i) (n i) (c i) (cell i)).stable w w' (fun k hk => h k ⟨i, hi, hk⟩) (h1 i hi), h2⟩

def upd {α : Type} (f : Nat → α) (p : Nat) (v : α) : Nat → α := fun i => if i = p then v else f i
theorem upd_same {α : Type} (f : Nat → α) (p : Nat) (v : α) : upd f p v p = v := if_pos rfl
theorem upd_ne {α : Type} (f : Nat → α) {p i : Nat} (v : α) (h : i ≠ p) : upd f p v i = f i := if_neg h

section
variable {w w0 : World} {F0 : Nat → Prop} {R : List Mem} {e sz i p : Nat} {D : Nat → Prop} {A : Nat → Option Addr} {n c : Nat → Nat} {cell : Nat → Nat → Nat → Value}

theorem ragM.row (S : St w0 F0 R w) (hi : R[i]? = some (ragM e sz D A n c cell)) (hp : D p) : (ownM e sz (A p) (n p) (c p) (cell p)).holds w := (S.holds hi).1 p hp

theorem ragM.pull (S : St w0 F0 R w) (hi : R[i]? = some (ragM e sz D A n c cell)) (hp : D p) :
    St w0 F0 (ownM e sz (A p) (n p) (c p) (cell p) :: R.set i (ragM e sz (fun q => D q ∧ q ≠ p) A n c cell)) w := by
  obtain ⟨h1, h2⟩ := S.holds hi
  refine S.split hi (h1 p hp) ⟨fun q hq => h1 q hq.1, fun q r hq hr => h2 q r hq.1 hr.1⟩ (fun k hk => ⟨p, hp, hk⟩) ?_ ?_
  · rintro k ⟨q, hq, hk⟩; exact ⟨q, hq.1, hk⟩
  · rintro k hk ⟨q, hq, hk'⟩; exact h2 p q hp hq.1 (fun e => hq.2 e.symm) k hk hk'

theorem ragM.put {A' : Option Addr} {n' c' : Nat} {cell' : Nat → Nat → Value} (S : St w0 F0 (ownM e sz A' n' c' cell' :: R) w) (hi : R[i]? = some (ragM e sz (fun q => D q ∧ q ≠ p) A n c cell)) (hp : D p) :
    St w0 F0 (R.set i (ragM e sz D (upd A p A') (upd n p n') (upd c p c') (upd cell p cell'))) w := by
  have h0 : (ownM e sz A' n' c' cell').holds w := S.holds (i := 0) rfl
  obtain ⟨h1, h2⟩ := S.holds (i := i + 1) (m := ragM e sz (fun q => D q ∧ q ≠ p) A n c cell) (by simpa using hi)
  have hd := S.disj 0 (i + 1) _ (ragM e sz (fun q => D q ∧ q ≠ p) A n c cell) rfl (by simpa using hi) (by omega)
  have hrow : ∀ q, q ≠ p → ownM e sz (upd A p A' q) (upd n p n' q) (upd c p c' q) (upd cell p cell' q) = ownM e sz (A q) (n q) (c q) (cell q) := fun q hq => by rw [upd_ne _ _ hq, upd_ne _ _ hq, upd_ne _ _ hq, upd_ne _ _ hq]
  have hrp : ownM e sz (upd A p A' p) (upd n p n' p) (upd c p c' p) (upd cell p cell' p) = ownM e sz A' n' c' cell' := by rw [upd_same, upd_same, upd_same, upd_same]
  refine S.merge hi ⟨fun q hq => ?_, fun q r hq hr hqr k hk hk' => ?_⟩ ?_
  · by_cases h : q = p
    · subst h; rw [hrp]; exact h0
    · rw [hrow q h]; exact h1 q ⟨hq, h⟩
  · by_cases h : q = p <;> by_cases h' : r = p
    · omega
    · subst h; rw [hrp] at hk; rw [hrow r h'] at hk'; exact hd k hk ⟨r, ⟨hr, h'⟩, hk'⟩
    · subst h'; rw [hrp] at hk'; rw [hrow q h] at hk; exact hd k hk' ⟨q, ⟨hq, h⟩, hk⟩
    · rw [hrow q h] at hk; rw [hrow r h'] at hk'; exact h2 q r ⟨hq, h⟩ ⟨hr, h'⟩ hqr k hk hk'
  · rintro k ⟨q, hq, hk⟩
    by_cases h : q = p
    · subst h; rw [hrp] at hk; exact .inl hk
    · rw [hrow q h] at hk; exact .inr ⟨q, ⟨hq, h⟩, hk⟩

theorem ragM.zero (S : St w0 F0 R w) (e sz : Nat) (D : Nat → Prop) (cell : Nat → Nat → Nat → Value) : St w0 F0 (ragM e sz D (fun _ => none) (fun _ => 0) (fun _ => 0) cell :: R) w :=
  S.new (Keeps.refl _ _) ⟨fun q _ => .inl ⟨rfl, rfl, rfl⟩, fun q r _ _ _ k ⟨_, h, _⟩ => by cases h⟩ fun k ⟨q, _, _, h, _⟩ => by cases h

theorem ragM.congr {A' : Nat → Option Addr} {n' c' : Nat → Nat} {cell' : Nat → Nat → Nat → Value} (S : St w0 F0 R w) (hi : R[i]? = some (ragM e sz D A n c cell))
    (hA : ∀ q, D q → A q = A' q) (hn : ∀ q, D q → n q = n' q) (hc : ∀ q, D q → c q = c' q) (hv : ∀ q, D q → ∀ k j, k < n q → j < sz → cell q k j = cell' q k j) : St w0 F0 (R.set i (ragM e sz D A' n' c' cell')) w := by
  have hfp : ∀ q, D q → ∀ k, (ownM e sz (A' q) (n' q) (c' q) (cell' q)).fp k ↔ (ownM e sz (A q) (n q) (c q) (cell q)).fp k := fun q hq k => by rw [← hA q hq]; exact Iff.rfl
  refine S.imp hi ?_ ?_
  · rintro ⟨h1, h2⟩
    refine ⟨fun q hq => ?_, fun q r hq hr hqr k hk hk' => h2 q r hq hr hqr k ((hfp q hq k).1 hk) ((hfp r hr k).1 hk')⟩
    rw [← hA q hq, ← hn q hq, ← hc q hq]
    rcases h1 q hq with h | ⟨b, cs, g1, g2, g3, g4, g5, g6⟩
    · exact .inl h
    · exact .inr ⟨b, cs, g1, g2, g3, g4, g5, fun k j hk hj => by rw [← hv q hq k j hk hj]; exact g6 k j hk hj⟩
  · rintro k ⟨q, hq, hk⟩; exact ⟨q, hq, (hfp q hq k).1 hk⟩

theorem ragM.rd {k j : Nat} (S : St w0 F0 R w) (hi : R[i]? = some (ragM e sz D A n c cell)) (hp : D p) (hk : k < n p) (hj : j < sz) : w.cell? (pt (A p) sz k j) = some (cell p k j) :=
  ownM.rd (ragM.pull S hi hp) (i := 0) rfl hk hj
theorem ragM.adr (S : St w0 F0 R w) (hi : R[i]? = some (ragM e sz D A n c cell)) (hp : D p) (hn : 0 < n p) : A p = some ⟨(adr (A p)).block, (adr (A p)).off, none⟩ :=
  ownM.adr (ragM.pull S hi hp) (i := 0) rfl hn
theorem ragM.inS (S : St w0 F0 R w) (hi : R[i]? = some (ragM e sz D A n c cell)) (hp : D p) : InS w noF sz (A p) (n p) (cell p) :=
  ownM.inS (ragM.pull S hi hp) (i := 0) rfl
theorem ragM.le (S : St w0 F0 R w) (hi : R[i]? = some (ragM e sz D A n c cell)) (hp : D p) : n p ≤ c p ∧ c p ≤ maxLen :=
  ownM.le (ragM.pull S hi hp) (i := 0) rfl
end
section
variable {P : Program} {ops : Array Oper} {w w0 : World} {F0 : Nat → Prop} {R : List Mem} {Q : Exit → Act → World → Prop} {rest : List Oper} {N : FN} {L : List (Nat × Value)} {a : Act} {ty : TypeId} {pos : String} {af : Array Edge}
/-- A store of one cell into a row. -/
theorem list_store_rag {t e sz i p kk j : Nat} {D : Nat → Prop} {A : Nat → Option Addr} {n c : Nat → Nat} {cell : Nat → Nat → Nat → Value} {x y : Operand} {v : Value} (H : Fr N L a) (S : St w0 F0 R w) (hi : R[i]? = some (ragM e sz D A n c cell))
    (hx : ev L x = some (.pointer (some (pt (A p) sz kk j)))) (hy : ev L y = some v) (hp : D p) (hk : kk < n p) (hj : j < sz) (hs : Sz P t 1) (h1 : v.oneCell' = true)
    (k : ∀ w' a', St w0 F0 (R.set i (ragM e sz D A n c (upd cell p (cput (cell p) kk j v)))) w' → Fr N L a' → wpList P ops Q rest a' w') :
    wpList P ops Q (⟨none, .store t x y, ty, pos, af, none⟩ :: rest) a w := by
  have hil : i < R.length := (List.getElem?_eq_some_iff.1 hi).1
  refine list_store_own H (ragM.pull S hi hp) (i := 0) rfl hx hy hk hj hs h1 fun w' a' S' H' => ?_
  simp only [List.set_cons_zero] at S'
  have S2 := ragM.put S' (i := i) (p := p) (by rw [List.getElem?_set_self hil]) hp
  rw [List.set_set] at S2
  refine k w' a' ?_ H'
  have S3 := ragM.congr S2 (i := i) (by rw [List.getElem?_set_self hil]) (A' := A) (n' := n) (c' := c) (cell' := upd cell p (cput (cell p) kk j v))
    (fun q _ => by unfold upd; split <;> simp_all) (fun q _ => by unfold upd; split <;> simp_all) (fun q _ => by unfold upd; split <;> simp_all) (fun q _ k j _ _ => rfl)
  rw [List.set_set] at S3
  exact S3
end

/-- What is owned is only read by a call that is handed other parts. -/
theorem ownM.inF {w w0 : World} {F0 : Nat → Prop} {R R1 : List Mem} {e sz n c i : Nat} {A : Option Addr} {cell : Nat → Nat → Value} (S : St w0 F0 R w) (hi : R[i]? = some (ownM e sz A n c cell)) (ks : List Nat) (hs : sel ks R = some R1) (hn : (ks.all fun k => !Nat.beq k i) = true) :
    InS w (fps R1) sz A n cell := by
  intro h0
  obtain ⟨b, o, hA, hb, _, hc⟩ := ownM.inS S hi h0
  refine ⟨b, o, hA, hb, ?_, hc⟩
  rintro ⟨m, hm, hk⟩
  obtain ⟨j, hj⟩ := List.getElem?_of_mem hm
  obtain ⟨q, hq, hq'⟩ := sel_get hs j m hj
  have hne : q ≠ i := by
    have := List.all_eq_true.1 hn q (List.mem_of_getElem? hq)
    intro e
    subst e
    simp at this
  exact S.disj q i m _ hq' hi hne b hk ⟨_, hA, rfl⟩
end Go.Proofs.Ytopmadlgolnmfaa

namespace Go.Proofs.Ytopmadlgolnmfaa
set_option linter.unusedVariables false
set_option linter.unusedSimpArgs false
open Go.RowKit

def queM (e : TypeId) (A : Option Addr) (n c : Nat) (f : Nat → Int) : Mem where
  fp := fun k => ∃ a, A = some a ∧ a.block = k
  holds := fun w => ∃ (b o : Nat) (cs : Array Value), A = some ⟨b, o, none⟩ ∧ w.heap[b]? = some (.cells cs e (0, 0)) ∧ n ≤ c ∧ c ≤ maxLen ∧ (0 < c → o + c ≤ cs.size) ∧ ∀ k, k < n → cs[o + k]? = some (.int .i64 (f k))
  stable := fun _ _ h ⟨b, o, cs, hA, hb, h'⟩ => ⟨b, o, cs, hA, (h b ⟨_, hA, rfl⟩).trans hb, h'⟩

section
variable {P : Program} {ops : Array Oper} {w w0 : World} {F0 F : Nat → Prop} {R : List Mem} {Q : Exit → Act → World → Prop} {rest : List Oper} {N : FN} {L : List (Nat × Value)} {a : Act} {ty : TypeId} {pos : String} {af : Array Edge}
variable {e n c i : Nat} {A : Option Addr} {f : Nat → Int}

theorem queM.rd {k : Nat} (S : St w0 F0 R w) (hi : R[i]? = some (queM e A n c f)) (hk : k < n) : w.cell? (pt A 1 k 0) = some (.int .i64 (f k)) := by
  obtain ⟨b, o, cs, rfl, hb, _, _, _, hc⟩ := S.holds hi
  have : pt (some ⟨b, o, none⟩) 1 k 0 = ⟨b, o + k, none⟩ := by simp [pt, adr]
  rw [this, cell_of_row w b (o + k) cs e (0, 0) hb]
  exact hc k hk
theorem queM.adr (S : St w0 F0 R w) (hi : R[i]? = some (queM e A n c f)) : A = some ⟨(adr A).block, (adr A).off, none⟩ := by
  obtain ⟨b, o, cs, rfl, _⟩ := S.holds hi
  rfl
theorem queM.of_own {cell : Nat → Nat → Value} (S : St w0 F0 R w) (hi : R[i]? = some (ownM e 1 A n c cell)) (hn : 0 < n) (hf : ∀ k, k < n → cell k 0 = .int .i64 (f k)) : St w0 F0 (R.set i (queM e A n c f)) w := by
  refine S.imp hi ?_ (fun _ h => h)
  rintro (⟨_, h, _⟩ | ⟨b, cs, rfl, hb, h1, h2, h3, hc⟩)
  · omega
  · refine ⟨b, 0, cs, rfl, hb, h1, h2, fun _ => by omega, fun k hk => ?_⟩
    have := hc k 0 hk (by omega)
    rw [Nat.zero_add, ← hf k hk, ← this]; simp
theorem queM.congr {f' : Nat → Int} (S : St w0 F0 R w) (hi : R[i]? = some (queM e A n c f)) (h : ∀ k, k < n → f k = f' k) : St w0 F0 (R.set i (queM e A n c f')) w := by
  refine S.imp hi ?_ (fun _ h => h)
  rintro ⟨b, o, cs, hA, hb, h1, h2, h3, hc⟩
  exact ⟨b, o, cs, hA, hb, h1, h2, h3, fun k hk => by rw [← h k hk]; exact hc k hk⟩
theorem queM.le (S : St w0 F0 R w) (hi : R[i]? = some (queM e A n c f)) : n ≤ c ∧ c ≤ maxLen := by
  obtain ⟨b, o, cs, rfl, _, h1, h2, _⟩ := S.holds hi
  exact ⟨h1, h2⟩
theorem cutA_fp {A : Option Addr} {c lo sz k : Nat} : (∃ a, cutA A c lo sz = some a ∧ a.block = k) ↔ (∃ a, A = some a ∧ a.block = k) := by
  unfold cutA
  split
  · exact Iff.rfl
  · cases A with
    | none => simp
    | some a => simp [Addr.add]; split <;> rfl
/-- The first one is taken off. -/
theorem queM.cut1 (S : St w0 F0 R w) (hi : R[i]? = some (queM e A n c f)) (hn : 0 < n) : St w0 F0 (R.set i (queM e (cutA A c 1 1) (n - 1) (c - 1) (fun k => f (k + 1)))) w := by
  refine S.imp hi ?_ (fun _ h => cutA_fp.1 h)
  rintro ⟨b, o, cs, rfl, hb, h1, h2, h3, hc⟩
  by_cases h : c = 1
  · subst h
    exact ⟨b, o, cs, by simp [cutA], hb, by omega, by omega, fun h => by omega, fun k hk => by omega⟩
  · refine ⟨b, o + 1, cs, by simp [cutA, h, add_lit], hb, by omega, by omega, fun h0 => ?_, fun k hk => ?_⟩
    · have := h3 (by omega); omega
    · have := hc (k + 1) (by omega)
      rw [show o + 1 + k = o + (k + 1) by omega]
      exact this
theorem setCell_heap (w : World) (b o : Nat) (v : Value) (cs : Array Value) (e : TypeId) (hb : w.heap[b]? = some (.cells cs e (0, 0))) : (w.setCell ⟨b, o, none⟩ v).heap[b]? = some (.cells (cs.setIfInBounds o v) e (0, 0)) := by
  simp [World.setCell, Array.getElem?_modify, hb]
theorem setCell_keeps (w : World) (b o : Nat) (v : Value) : Keeps w (w.setCell ⟨b, o, none⟩ v) (fun k => k = b) := by
  refine ⟨rfl, rfl, rfl, by simp [World.setCell], fun k hk hf => ?_⟩
  simp only [World.setCell, Array.getElem?_modify]
  rw [if_neg (fun e => hf e.symm)]
/-- One number more. -/
theorem list_push {d t by_ c' : Nat} {x y : Operand} {z : List Value} {B : Option Addr} {cell' : Nat → Nat → Value} {v : Int} (H : Fr N L a) (hd : Nat.blt d N.n = true) (S : St w0 F0 R w) (ht : SlT P t e) (hs : Sz P e 1) (hz : Zero P e z) (hby : Bytes P e by_) (hzs : Nat.beq z.length 1 = true)
    (hi : R[i]? = some (queM e A n c f)) (hx : ev L x = some (.slice A n c)) (hy : ev L y = some (.slice B 1 c')) (hB : InS w noF 1 B 1 cell') (hv : cell' 0 0 = .int .i64 v)
    (hlen : (n + 1) * by_ ≤ 140737488355328) (hlen2 : n + 1 ≤ 9223372036854775807)
    (k : ∀ A' c1 w' a', St w0 F0 (R.set i (queM e A' (n + 1) c1 (fun k => if k = n then v else f k))) w' → Fr N ((d, .slice A' (n + 1) c1) :: L) a' → wpList P ops Q rest a' w') :
    wpList P ops Q (⟨some d, .call ⟨.builtin .append, #[x, y], #[t, t]⟩, ty, pos, af, none⟩ :: rest) a w := by
  obtain ⟨b, o, cs, rfl, hb, h1, h2, h3, hc⟩ := S.holds hi
  obtain ⟨b', o', rfl, hb', _, hc'⟩ := hB (by omega)
  have hcell := hc' 0 0 (by omega) (by omega)
  rw [hv] at hcell
  simp only [Nat.zero_mul, Nat.add_zero] at hcell
  unfold Zero at hz
  unfold Sz at hs
  unfold Bytes at hby
  cases hin : P.info? e with
  | none => rw [hin] at hz; simp at hz
  | some inf =>
    rw [hin] at hz hs hby
    simp at hz hs hby
    obtain ⟨zv, hz1, hz2⟩ := hz
    have hzsz : zv.cells.size = 1 := by have := Nat.eq_of_beq_eq_true hzs; rw [← hz2] at this; simpa using this
    have hold : ∀ (j : Nat) u, ((List.range n).map fun k => Value.int .i64 (f k))[j]? = some u → w.cell? ⟨b, o + j, none⟩ = some u := by
      intro j u hu
      have hj : j < n := by have := (List.getElem?_eq_some_iff.1 hu).1; simpa using this
      rw [cell_of_row w b (o + j) cs e (0, 0) hb, hc j hj]
      rw [List.getElem?_map, List.getElem?_range hj] at hu
      simpa using hu
    refine wpList_append_arg (P := P) w rfl x y t rfl e inf zv 1 by_ ht hin hz1 hs hby hzsz (by omega) b o n c ((List.range n).map fun k => Value.int .i64 (f k)) (H.eval hx) (by simp) hold ⟨b', o', none⟩ 1 c' [.int .i64 v] (H.eval hy) (by simp)
      (fun j u hj => by
        have hj0 : j = 0 := by have := (List.getElem?_eq_some_iff.1 hj).1; simp at this; omega
        subst hj0
        simp at hj
        subst hj
        rw [add_lit]; simpa using hcell) (by simp [Value.oneCell'])
      (fun hr j hj => by
        have hlt : o + n * 1 + j < cs.size := by have := h3 (by omega); simp at hj; omega
        refine ⟨?_, ?_⟩
        · rw [cell_of_row w b _ cs e (0, 0) hb, Array.getElem?_eq_getElem hlt]; rfl
        · simp [World.frozen?, hb]) (by simp only [maxLen]; omega) hlen ?_ ?_
    · intro hr
      have hlt : o + n < cs.size := by have := h3 (by omega); omega
      have e1 : w.setCells b (o + n * 1) [Value.int .i64 v] = w.setCell ⟨b, o + n, none⟩ (.int .i64 v) := by rw [Nat.mul_one]; rfl
      rw [e1]
      refine k (some ⟨b, o, none⟩) c _ _ (S.updSame hi ((setCell_keeps w b (o + n) _).mono ?_) ?_ (fun _ h => h)) (H.put _ hd)
      · rintro q rfl; exact ⟨_, rfl, rfl⟩
      · refine ⟨b, o, _, rfl, setCell_heap w b (o + n) _ cs e hb, hr, h2, fun h0 => by simpa using h3 h0, fun q hq => ?_⟩
        show _ = some (Value.int .i64 (if q = n then v else f q))
        by_cases hqn : q = n
        · subst hqn
          rw [if_pos rfl, Array.getElem?_setIfInBounds_self_of_lt hlt]
        · rw [if_neg hqn, Array.getElem?_setIfInBounds_ne (by omega)]
          exact hc q (by omega)
    · intro hg v' w' hown hgr
      obtain ⟨A', c1, rfl, h6, h7⟩ := of_owns (cell := fun q _ => .int .i64 (if q = n then v else f q)) (n := n + 1) (e := e) (sz := 1) (w := w') (v := v') (xs := ((List.range n).map fun k => Value.int .i64 (f k)) ++ [.int .i64 v])
        (by
          obtain ⟨x1, x2⟩ := hown
          refine ⟨x1, x2.imp (fun h => h) ?_⟩
          rintro ⟨g, cap, cur, y1, y2, y3⟩
          exact ⟨g, cap, cur, y1, Nat.zero_le _, y3⟩)
        (fun q j hq hj => by
          have hj0 : j = 0 := by omega
          subst hj0
          simp only [Nat.mul_one, Nat.add_zero]
          by_cases hqn : q = n
          · subst hqn
            rw [List.getElem?_append_right (by simp)]
            simp
          · rw [List.getElem?_append_left (by simp; omega), List.getElem?_map, List.getElem?_range (by omega), if_neg hqn]
            rfl)
      rcases h6 with ⟨_, h, _⟩ | ⟨b9, cs9, rfl, hb9, k1, k2, k3, k4⟩
      · omega
      have hnew : w.heap.size ≤ b9 ∧ b9 < w'.heap.size := by
        refine ⟨?_, lt_of_heap hb9⟩
        obtain ⟨x1, x2⟩ := hown
        rcases x2 with ⟨y1, y2⟩ | ⟨g, cap, cur, y1, y2, y3⟩
        · omega
        · injection y1 with z1 z2 z3
          injection z1 with z1
          injection z1 with z1
          omega
      refine k (some ⟨b9, 0, none⟩) c1 _ _ (S.upd hi (Keeps.of_grown hgr |>.mono (fun q hq => by cases hq)) ?_ ?_) (H.put _ hd)
      · refine ⟨b9, 0, cs9, rfl, hb9, k1, k2, fun _ => by omega, fun q hq => ?_⟩
        have := k4 q 0 hq (by omega)
        rw [Nat.zero_add]
        simpa using this
      · rintro q ⟨aa, h9, rfl⟩
        cases h9
        exact .inr hnew
end
end Go.Proofs.Ytopmadlgolnmfaa
