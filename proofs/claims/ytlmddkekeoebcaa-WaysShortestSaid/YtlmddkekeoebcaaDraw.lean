/- Statements whose order is open and in which something writes: what only reads memory that no operation of the statement turns is taken first, the others come in a forced order. -/
import Derived.Test.YtlmddkekeoebcaaWr
namespace Go.Proofs.Ytlmddkekeoebcaa
set_option linter.unusedVariables false
set_option linter.unusedSimpArgs false
open Go.RowKit

def NoQ : Exit → Act → World → Prop := fun _ _ _ => False

section
variable {P : Program} {ops : Array Oper} {C : World → Prop} {Qn : Act → World → Prop}

/-- In every world of the class operation o leaves v in its slot, and the world as it is. -/
def Yd (P : Program) (ops : Array Oper) (C : World → Prop) (o : Oper) (v : Value) (a : Act) : Prop :=
  (Region.wanted o (yielded ops a.tmps) = true ∧ ∀ w, C w → (execOp a.eval o).run P w = .ok (.value v) w) ∨ (Region.wanted o (yielded ops a.tmps) = false ∧ v = undef)

theorem Yd.same {o : Oper} {v : Value} {a a' : Act} (hy : Yd P ops C o v a) (he : execOp a'.eval o = execOp a.eval o) (hw : Region.wanted o (yielded ops a'.tmps) = Region.wanted o (yielded ops a.tmps)) : Yd P ops C o v a' := by
  unfold Yd at *; rw [he, hw]; exact hy

def anyC (P : Program) (ops : Array Oper) (C : World → Prop) (Qn : Act → World → Prop) : Nat → Array Bool → Act → World → Prop
  | 0, listed, a, w => Region.ready .any ops listed = [] ∧ Qn a w
  | fuel + 1, listed, a, w => (Region.ready .any ops listed = [] → Qn a w) ∧
      ∀ i ∈ Region.ready .any ops listed, wpOp P ops NoQ i (fun a' w' => C w' ∧ anyC P ops C Qn fuel (listed.setIfInBounds i true) a' w') a w

theorem upon_q {o : Oper} {a : Act} {K : Act → World → Prop} {Q : Exit → Act → World → Prop} {r : Result Next} (h : o.upon P a K NoQ r) : o.upon P a K Q r := by
  cases r with
  | ok n w' =>
    cases n <;> simp only [Oper.upon] at h ⊢ <;> first
      | exact h
      | exact Calls.mono h (fun e w'' he => by
          cases e with
          | returned v => exact he
          | panicked c => exact he.elim
          | outgrown => obtain ⟨_, _, hh⟩ := he; exact hh.elim)
  | halt x w' => cases x <;> simp only [Oper.upon] at h ⊢ <;> first | exact h | exact h.elim

theorem wpOp_q {Q : Exit → Act → World → Prop} {i : Nat} {K : Act → World → Prop} {a : Act} {w : World} (h : wpOp P ops NoQ i K a w) : wpOp P ops Q i K a w := by
  unfold wpOp at *
  split
  · rename_i ho; simp only [ho] at h; exact h
  · rename_i o ho
    simp only [ho] at h
    split
    · rename_i hw
      simp only [hw, if_true] at h
      rcases h with h | ⟨_, _, _, h⟩
      · exact .inl (upon_q h)
      · exact h.elim
    · rename_i hw
      simp only [hw] at h
      exact h

theorem any_of_anyC {Q : Exit → Act → World → Prop} (hQ : ∀ a w, Qn a w → Q .normal a w) : ∀ (fuel : Nat) (listed : Array Bool) (a : Act) (w : World), anyC P ops C Qn fuel listed a w → wpAny P .any ops Q fuel listed a w
  | 0, _, _, _, h => ⟨h.1, hQ _ _ h.2⟩
  | fuel + 1, _, _, _, h => ⟨fun hr => hQ _ _ (h.1 hr), fun i hi => wpOp_mono (fun a' w' h' => any_of_anyC hQ fuel _ a' w' h'.2) (wpOp_q (h.2 i hi))⟩

theorem op_put {i j : Nat} {oi oj : Oper} {v : Value} (hj : ops[j]? = some oj) (hap : oi.apart ops oj = true) (hsi : ∀ cs b, oi.op ≠ .select cs b) (hsj : ∀ cs b, oj.op ≠ .select cs b)
    {K : Act → World → Prop} {a : Act} {w : World} (hy : Yd P ops C oi v a) (h : wpOp P ops NoQ j K (a.put oi.dst v) w) :
    wpOp P ops NoQ j (fun a' w' => Yd P ops C oi v a' ∧ K (a'.put oi.dst v) w') a w := by
  obtain ⟨h1, h2, h3⟩ := Oper.apart_spec hap
  have keep : ∀ (b : Act), Yd P ops C oi v b → ∀ u, Yd P ops C oi v (b.put oj.dst u) := fun b hb u => hb.same (execOp_put oi hsi b oj.dst u h3) (wanted_put oi b oj.dst u h3)
  unfold wpOp at *
  simp only [hj] at *
  rw [wanted_put oj a oi.dst v h1] at h
  by_cases hw : Region.wanted oj (yielded ops a.tmps) = true
  · rw [if_pos hw] at h ⊢
    rcases h with h | ⟨_, _, _, hf⟩
    · refine .inl ?_
      unfold Oper.wp at *
      rw [execOp_put oj hsj a oi.dst v h1] at h
      revert h
      generalize (execOp a.eval oj).run P w = r
      intro h
      cases r with
      | ok n w' =>
        cases n with
        | value u => exact ⟨keep a hy u, by rw [← Act.put_comm a v u h2]; exact h⟩
        | skip => exact ⟨keep a hy _, by rw [← Act.put_comm a v undef h2]; exact h⟩
        | defer d =>
          have hd : Yd P ops C oi v { a with defers := d :: a.defers } := hy.same rfl rfl
          refine ⟨keep _ hd _, ?_⟩
          rw [← Act.put_comm _ v undef h2, ← Act.put_defers]
          exact h
        | enter f args =>
          refine Calls.mono h fun e w'' he => ?_
          cases e with
          | returned u => exact ⟨keep a hy u, by rw [← Act.put_comm a v u h2]; exact he⟩
          | panicked c => exact he
          | outgrown => exact he
        | row row args => exact Rows.mono h fun u w'' he => ⟨keep a hy u, by rw [← Act.put_comm a v u h2]; exact he⟩
        | _ => exact h
      | halt x w' => cases x <;> exact h
    · exact hf.elim
  · rw [if_neg hw] at h ⊢
    exact ⟨keep a hy _, by rw [← Act.put_comm a v undef h2]; exact h⟩

theorem op_yields {i : Nat} {o : Oper} {v : Value} {a : Act} {w : World} {K : Act → World → Prop} (hi : ops[i]? = some o) (hy : Yd P ops C o v a) (hC : C w) (h : K (a.put o.dst v) w) : wpOp P ops NoQ i K a w := by
  unfold wpOp
  simp only [hi]
  rcases hy with ⟨hw, hv⟩ | ⟨hw, rfl⟩
  · rw [if_pos hw]
    refine .inl ?_
    unfold Oper.wp
    rw [hv w hC]
    exact h
  · rw [if_neg (by rw [hw]; simp)]
    exact h

theorem anyC_first {i : Nat} {oi : Oper} {v : Value} (hi : ops[i]? = some oi) (hsel : ∀ (j : Nat) (o : Oper) cs b, ops[j]? = some o → o.op ≠ .select cs b) :
    ∀ (fuel : Nat) (listed : Array Bool) (a : Act) (w : World),
      (∀ j oj, ops[j]? = some oj → j ≠ i → listed.getD j true = false → (∀ e ∈ oj.after, Region.binds .any e = true → e.on ≠ i) → oi.apart ops oj = true) →
      i ∈ Region.ready .any ops listed → Yd P ops C oi v a → C w →
      anyC P ops C Qn fuel (listed.setIfInBounds i true) (a.put oi.dst v) w → anyC P ops C Qn (fuel + 1) listed a w := by
  intro fuel
  induction fuel with
  | zero =>
    intro listed a w _ hr hy hC H
    refine ⟨fun h => (by rw [h] at hr; cases hr), fun j hj => ?_⟩
    by_cases hji : j = i
    · subst hji; exact op_yields hi hy hC ⟨hC, H⟩
    · have h1 := ready_mono hj hji
      rw [H.1] at h1
      cases h1
  | succ fuel ih =>
    intro listed a w hfree hr hy hC H
    refine ⟨fun h => (by rw [h] at hr; cases hr), fun j hj => ?_⟩
    by_cases hji : j = i
    · subst hji; exact op_yields hi hy hC ⟨hC, H⟩
    · have h1 := H.2 j (ready_mono hj hji)
      obtain ⟨hjun, oj, hoj, hall⟩ := mem_ready.1 hj
      have hiun := (mem_ready.1 hr).1
      have hnot : ∀ e ∈ oj.after, Region.binds .any e = true → e.on ≠ i := by
        intro e he hb heq
        have h2 := hall e he hb
        rw [heq] at h2
        rcases Nat.lt_or_ge i listed.size with h' | h'
        · simp [h'] at hiun h2; rw [hiun] at h2; cases h2
        · simp [Array.getElem?_eq_none h'] at h2
      have h2 := op_put (i := i) hoj (hfree j oj hoj hji hjun hnot) (fun cs b => hsel i oi cs b hi) (fun cs b => hsel j oj cs b hoj) hy h1
      refine wpOp_mono (fun a' w' h3 => ?_) h2
      obtain ⟨hy', hC', h3⟩ := h3
      refine ⟨hC', ih (listed.setIfInBounds j true) a' w' ?_ (ready_mono hr (fun e => hji e.symm)) hy' hC' ?_⟩
      · intro k ok hk hki hun hno
        refine hfree k ok hk hki ?_ hno
        by_cases hjk : j = k
        · subst hjk; exact hjun
        · rw [getD_set_ne true hjk] at hun; exact hun
      · rw [Array.setIfInBounds_comm _ _ hji]
        exact h3

/-- The walk: the operations in the order that is named, 'true' for one that is taken first. -/
def wq (P : Program) (ops : Array Oper) (C : World → Prop) (Qn : Act → World → Prop) : List (Nat × Bool) → Act → World → Prop
  | [], a, w => Qn a w
  | (i, true) :: π, a, w => ∃ o v, ops[i]? = some o ∧ Yd P ops C o v a ∧ wq P ops C Qn π (a.put o.dst v) w
  | (i, false) :: π, a, w => wpOp P ops NoQ i (fun a' w' => C w' ∧ wq P ops C Qn π a' w') a w

def ckq (ops : Array Oper) : List (Nat × Bool) → Array Bool → Bool
  | [], listed => (Region.ready .any ops listed).isEmpty
  | (i, true) :: π, listed => (Region.ready .any ops listed).contains i && Region.free .any ops listed i && ckq ops π (listed.setIfInBounds i true)
  | (i, false) :: π, listed => (match Region.ready .any ops listed with | [j] => Nat.beq i j | _ => false) && ckq ops π (listed.setIfInBounds i true)

theorem anyC_of_wq (hs : Region.noSelect ops = true) : ∀ (π : List (Nat × Bool)) (listed : Array Bool) (a : Act) (w : World), ckq ops π listed = true → C w → wq P ops C Qn π a w → anyC P ops C Qn π.length listed a w := by
  intro π
  induction π with
  | nil =>
    intro listed a w hc _ h
    exact ⟨by simpa [ckq] using hc, h⟩
  | cons p π ih =>
    intro listed a w hc hC h
    obtain ⟨i, b⟩ := p
    cases b with
    | true =>
      simp only [ckq, Bool.and_eq_true] at hc
      obtain ⟨⟨hr, hf⟩, hc'⟩ := hc
      obtain ⟨o, v, ho, hy, h'⟩ := h
      exact anyC_first ho (Region.noSelect_spec hs) π.length listed a w (Region.free_spec ho hf) (by simpa using hr) hy hC (ih _ _ _ hc' hC h')
    | false =>
      simp only [ckq, Bool.and_eq_true] at hc
      obtain ⟨hr, hc'⟩ := hc
      have hri : Region.ready .any ops listed = [i] := by
        revert hr
        cases Region.ready .any ops listed with
        | nil => intro hr; cases hr
        | cons j t =>
          cases t with
          | nil => intro hr; have := Nat.eq_of_beq_eq_true hr; rw [this]
          | cons _ _ => intro hr; cases hr
      refine ⟨fun h0 => (by rw [hri] at h0; cases h0), fun j hj => ?_⟩
      rw [hri] at hj
      have : j = i := by simpa using hj
      subst this
      exact wpOp_mono (fun a' w' h' => ⟨h'.1, ih _ _ _ hc' h'.1 h'.2⟩) h

def ckAll (ops : Array Oper) (π : List (Nat × Bool)) : Bool := Region.noSelect ops && ckq ops π (Array.replicate ops.size false) && Nat.beq π.length ops.size

theorem region_wq {id : Nat} {Q : Exit → Act → World → Prop} {a : Act} {w : World} (π : List (Nat × Bool)) (hm : P.follows .mixedOrders = true) (hck : ckAll ops π = true) (hC : C w.drew)
    (h : wq P ops C (fun a w => Q .normal a w) π a w.drew) : (Code.region id ops true).wp P Q a w := by
  simp only [ckAll, Bool.and_eq_true] at hck
  obtain ⟨⟨h1, h2⟩, h3⟩ := hck
  refine wp_region_any hm (any_of_anyC (C := C) (Qn := fun a w => Q .normal a w) (fun _ _ h => h) _ _ _ _ ?_)
  have h4 := anyC_of_wq h1 π _ a _ h2 hC h
  rw [Nat.eq_of_beq_eq_true h3] at h4
  exact h4
end

section
variable {P : Program} {w w0 : World} {F0 : Nat → Prop} {R RE : List Mem} {Q : Exit → Act → World → Prop} {Qn : Act → World → Prop} {l : List Oper} {N : FN} {L : List (Nat × Value)} {a : Act} {ty : TypeId} {pos : String} {af : Array Edge} {op : Op} {y : Code} {id : Nat} {ops : Array Oper} {π : List (Nat × Bool)}

theorem seq_wq (π : List (Nat × Bool)) (hm : P.follows .mixedOrders = true) (hck : ckAll l.toArray π = true) (SE : St w0 F0 RE w.drew)
    (h : ∀ K : Act → World → Prop, (∀ a w, y.wp P Q a w → K a w) → wq P l.toArray (fun w' => St w0 F0 RE w') K π a w.drew) : (Code.seq (.region id l.toArray true) y).wp P Q a w :=
  wp_seq (region_wq π hm hck SE (h _ (fun _ _ h => h)))
theorem one_wq (π : List (Nat × Bool)) (hm : P.follows .mixedOrders = true) (hck : ckAll l.toArray π = true) (SE : St w0 F0 RE w.drew)
    (h : wq P l.toArray (fun w' => St w0 F0 RE w') (fun a w => Q .normal a w) π a w.drew) : (Code.region id l.toArray true).wp P Q a w := region_wq π hm hck SE h

theorem wq_nil {C : World → Prop} (h : Qn a w) : wq P ops C Qn [] a w := h

/-- One that is taken first. -/
theorem wq_does {C : World → Prop} {i d : Nat} {v : Value} (H : Fr N L a) (hi : ops[i]? = some ⟨some d, op, ty, pos, af, none⟩) (hd : Nat.blt d N.n = true) (h : ∀ w', C w' → Does P L ⟨some d, op, ty, pos, af, none⟩ w' v)
    (k : ∀ a', Fr N ((d, v) :: L) a' → wq P ops C Qn π a' w) : wq P ops C Qn ((i, true) :: π) a w :=
  ⟨_, v, hi, .inl ⟨rfl, fun w' hC => h w' hC a.eval (fun x u hx => H.eval hx)⟩, k _ (H.put v hd)⟩
theorem wq_yes {C : World → Prop} {i d j g : Nat} {b : Bool} {v : Value} (H : Fr N L a) (hi : ops[i]? = some ⟨some d, op, ty, pos, af, some (j, b)⟩) (hd : Nat.blt d N.n = true) (hg : (ops[j]?).bind (·.dst) = some g) (hb : look L g = some (.bool b))
    (h : ∀ w', C w' → Does P L ⟨some d, op, ty, pos, af, some (j, b)⟩ w' v)
    (k : ∀ a', Fr N ((d, v) :: L) a' → wq P ops C Qn π a' w) : wq P ops C Qn ((i, true) :: π) a w :=
  ⟨_, v, hi, .inl ⟨wanted_yes H hg hb, fun w' hC => h w' hC a.eval (fun x u hx => H.eval hx)⟩, k _ (H.put v hd)⟩
theorem wq_no {C : World → Prop} {i d j g : Nat} {b c : Bool} (H : Fr N L a) (hi : ops[i]? = some ⟨some d, op, ty, pos, af, some (j, b)⟩) (hd : Nat.blt d N.n = true) (hg : (ops[j]?).bind (·.dst) = some g) (hc : look L g = some (.bool c)) (hne : (c == b) = false)
    (k : ∀ a', Fr N ((d, undef) :: L) a' → wq P ops C Qn π a' w) : wq P ops C Qn ((i, true) :: π) a w :=
  ⟨_, undef, hi, .inr ⟨wanted_no H hg hc hne, rfl⟩, k _ (H.put undef hd)⟩

def onlyN (K : Act → World → Prop) : Exit → Act → World → Prop
  | .normal, a, w => K a w
  | _, _, _ => False

theorem upon_only {o : Oper} {K K' : Act → World → Prop} {r : Result Next} (h : o.upon P a K (onlyN K') r) : o.upon P a K NoQ r := by
  cases r with
  | ok n w' =>
    cases n <;> simp only [Oper.upon] at h ⊢ <;> first
      | exact h
      | exact Calls.mono h (fun e w'' he => by
          cases e with
          | returned v => exact he
          | panicked c => exact he.elim
          | outgrown => obtain ⟨_, _, hh⟩ := he; exact hh.elim)
  | halt x w' => cases x <;> simp only [Oper.upon] at h ⊢ <;> first | exact h | exact h.elim

/-- One that makes or writes: walked as a list of one operation. -/
theorem wq_eff {C : World → Prop} {i : Nat} {o : Oper} (hi : ops[i]? = some o) (h : wpList P ops (onlyN fun a' w' => C w' ∧ wq P ops C Qn π a' w') [o] a w) : wq P ops C Qn ((i, false) :: π) a w := by
  show wpOp P ops NoQ i _ a w
  unfold wpOp
  simp only [hi]
  unfold wpList at h
  split
  · rename_i hw
    rw [if_pos hw] at h
    rcases h with h | ⟨_, _, _, h⟩
    · exact .inl (upon_only h)
    · exact h.elim
  · rename_i hw
    rw [if_neg hw] at h
    exact h
end
end Go.Proofs.Ytlmddkekeoebcaa
