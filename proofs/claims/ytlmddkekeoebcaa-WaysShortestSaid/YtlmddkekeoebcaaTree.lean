/- Statements whose order is open and in which several operations write, in more than one order: all orders are walked. -/
import Derived.Test.YtlmddkekeoebcaaDraw
namespace Go.Proofs.Ytlmddkekeoebcaa
set_option linter.unusedVariables false
set_option linter.unusedSimpArgs false
open Go.RowKit

inductive Wt where
  | nil
  | q (i : Nat) (t : Wt)
  | p (i : Nat) (t : Wt)
  | e (i : Nat) (t : Wt)
  | b2 (i : Nat) (t : Wt) (j : Nat) (u : Wt)
  | b3 (i : Nat) (t : Wt) (j : Nat) (u : Wt) (k : Nat) (v : Wt)

section
variable {P : Program} {ops : Array Oper} {C : World → Prop} {Qn : Act → World → Prop}

/-- As anyC; behind operation z the class need not hold. -/
def anyZ (P : Program) (ops : Array Oper) (C : World → Prop) (z : Nat) (Qn : Act → World → Prop) : Bool → Nat → Array Bool → Act → World → Prop
  | _, 0, listed, a, w => Region.ready .any ops listed = [] ∧ Qn a w
  | f, fuel + 1, listed, a, w => (Region.ready .any ops listed = [] → Qn a w) ∧
      ∀ i ∈ Region.ready .any ops listed, wpOp P ops NoQ i (fun a' w' => ((f || Nat.beq i z) = true ∨ C w') ∧ anyZ P ops C z Qn (f || Nat.beq i z) fuel (listed.setIfInBounds i true) a' w') a w
theorem any_of_anyZ {z : Nat} {Q : Exit → Act → World → Prop} (hQ : ∀ a w, Qn a w → Q .normal a w) : ∀ (f : Bool) (fuel : Nat) (listed : Array Bool) (a : Act) (w : World), anyZ P ops C z Qn f fuel listed a w → wpAny P .any ops Q fuel listed a w
  | _, 0, _, _, _, h => ⟨h.1, hQ _ _ h.2⟩
  | f, fuel + 1, _, _, _, h => ⟨fun hr => hQ _ _ (h.1 hr), fun i hi => wpOp_mono (fun a' w' h' => any_of_anyZ hQ (f || Nat.beq i z) fuel _ a' w' h'.2) (wpOp_q (h.2 i hi))⟩
theorem not_on {i j : Nat} {listed : Array Bool} {oj : Oper} (hiun : listed.getD i true = false) (hall : ∀ e ∈ oj.after, Region.binds .any e = true → listed.getD e.on false = true) : ∀ e ∈ oj.after, Region.binds .any e = true → e.on ≠ i := by
  intro e he hb heq
  have h2 := hall e he hb
  rw [heq] at h2
  rcases Nat.lt_or_ge i listed.size with h' | h'
  · simp [h'] at hiun h2; rw [hiun] at h2; cases h2
  · simp [Array.getElem?_eq_none h'] at h2
theorem anyZ_first {z i : Nat} {oi : Oper} {v : Value} (hi : ops[i]? = some oi) (hiz : Nat.beq i z = false) (hz : ∀ oz, ops[z]? = some oz → ∃ e ∈ oz.after, Region.binds .any e = true ∧ e.on = i) (hsel : ∀ (j : Nat) (o : Oper) cs b, ops[j]? = some o → o.op ≠ .select cs b) :
    ∀ (fuel : Nat) (listed : Array Bool) (a : Act) (w : World),
      (∀ j oj, ops[j]? = some oj → j ≠ i → listed.getD j true = false → (∀ e ∈ oj.after, Region.binds .any e = true → e.on ≠ i) → oi.apart ops oj = true) →
      i ∈ Region.ready .any ops listed → Yd P ops C oi v a → C w →
      anyZ P ops C z Qn false fuel (listed.setIfInBounds i true) (a.put oi.dst v) w → anyZ P ops C z Qn false (fuel + 1) listed a w := by
  intro fuel
  induction fuel with
  | zero =>
    intro listed a w _ hr hy hC H
    refine ⟨fun h => (by rw [h] at hr; cases hr), fun j hj => ?_⟩
    by_cases hji : j = i
    · subst hji; rw [hiz]; exact op_yields hi hy hC ⟨.inr hC, H⟩
    · have h1 := ready_mono hj hji
      rw [H.1] at h1
      cases h1
  | succ fuel ih =>
    intro listed a w hfree hr hy hC H
    refine ⟨fun h => (by rw [h] at hr; cases hr), fun j hj => ?_⟩
    by_cases hji : j = i
    · subst hji; rw [hiz]; exact op_yields hi hy hC ⟨.inr hC, H⟩
    · have h1 := H.2 j (ready_mono hj hji)
      obtain ⟨hjun, oj, hoj, hall⟩ := mem_ready.1 hj
      have hnot := not_on (j := j) (mem_ready.1 hr).1 hall
      have hjz : Nat.beq j z = false := by
        cases hq : Nat.beq j z with
        | false => rfl
        | true =>
          have := Nat.eq_of_beq_eq_true hq
          subst this
          obtain ⟨e, he, hb, ho⟩ := hz oj hoj
          exact absurd ho (hnot e he hb)
      rw [hjz] at h1 ⊢
      have h2 := op_put (i := i) hoj (hfree j oj hoj hji hjun hnot) (fun cs b => hsel i oi cs b hi) (fun cs b => hsel j oj cs b hoj) hy h1
      refine wpOp_mono (fun a' w' h3 => ?_) h2
      obtain ⟨hy', hC', h3⟩ := h3
      have hC2 : C w' := by
        rcases hC' with h | h
        · cases h
        · exact h
      refine ⟨.inr hC2, ih (listed.setIfInBounds j true) a' w' ?_ (ready_mono hr (fun e => hji e.symm)) hy' hC2 ?_⟩
      · intro k ok hk hki hun hno
        refine hfree k ok hk hki ?_ hno
        by_cases hjk : j = k
        · subst hjk; exact hjun
        · rw [getD_set_ne true hjk] at hun; exact hun
      · rw [Array.setIfInBounds_comm _ _ hji]
        exact h3
/-- One that reads no memory at all. -/
theorem anyZ_pure {z i : Nat} {oi : Oper} {v : Value} (hi : ops[i]? = some oi) (hiz : Nat.beq i z = false) (hsel : ∀ (j : Nat) (o : Oper) cs b, ops[j]? = some o → o.op ≠ .select cs b) :
    ∀ (fuel : Nat) (f : Bool) (listed : Array Bool) (a : Act) (w : World),
      (∀ j oj, ops[j]? = some oj → j ≠ i → listed.getD j true = false → (∀ e ∈ oj.after, Region.binds .any e = true → e.on ≠ i) → oi.apart ops oj = true) →
      i ∈ Region.ready .any ops listed → Yd P ops (fun _ => True) oi v a → (f = true ∨ C w) →
      anyZ P ops C z Qn f fuel (listed.setIfInBounds i true) (a.put oi.dst v) w → anyZ P ops C z Qn f (fuel + 1) listed a w := by
  intro fuel
  induction fuel with
  | zero =>
    intro f listed a w _ hr hy hC H
    refine ⟨fun h => (by rw [h] at hr; cases hr), fun j hj => ?_⟩
    by_cases hji : j = i
    · subst hji; rw [hiz, Bool.or_false]; exact op_yields (C := fun _ => True) hi hy trivial ⟨hC, H⟩
    · have h1 := ready_mono hj hji
      rw [H.1] at h1
      cases h1
  | succ fuel ih =>
    intro f listed a w hfree hr hy hC H
    refine ⟨fun h => (by rw [h] at hr; cases hr), fun j hj => ?_⟩
    by_cases hji : j = i
    · subst hji; rw [hiz, Bool.or_false]; exact op_yields (C := fun _ => True) hi hy trivial ⟨hC, H⟩
    · have h1 := H.2 j (ready_mono hj hji)
      obtain ⟨hjun, oj, hoj, hall⟩ := mem_ready.1 hj
      have hnot := not_on (j := j) (mem_ready.1 hr).1 hall
      have h2 := op_put (C := fun _ => True) (i := i) hoj (hfree j oj hoj hji hjun hnot) (fun cs b => hsel i oi cs b hi) (fun cs b => hsel j oj cs b hoj) hy h1
      refine wpOp_mono (fun a' w' h3 => ?_) h2
      obtain ⟨hy', hC', h3⟩ := h3
      refine ⟨hC', ih (f || Nat.beq j z) (listed.setIfInBounds j true) a' w' ?_ (ready_mono hr (fun e => hji e.symm)) hy' hC' ?_⟩
      · intro k ok hk hki hun hno
        refine hfree k ok hk hki ?_ hno
        by_cases hjk : j = k
        · subst hjk; exact hjun
        · rw [getD_set_ne true hjk] at hun; exact hun
      · rw [Array.setIfInBounds_comm _ _ hji]
        exact h3
/-- Operation z comes behind operation i. -/
def behindZ (ops : Array Oper) (z i : Nat) : Bool := match ops[z]? with
  | some oz => oz.after.any fun e => Region.binds .any e && Nat.beq e.on i
  | none => true
theorem behindZ_spec {z i : Nat} (h : behindZ ops z i = true) : ∀ oz, ops[z]? = some oz → ∃ e ∈ oz.after, Region.binds .any e = true ∧ e.on = i := by
  intro oz ho
  unfold behindZ at h
  rw [ho] at h
  obtain ⟨e, he, hb⟩ := Array.any_eq_true'.1 h
  simp only [Bool.and_eq_true] at hb
  exact ⟨e, he, hb.1, Nat.eq_of_beq_eq_true hb.2⟩

def wt (P : Program) (ops : Array Oper) (C : World → Prop) (z : Nat) (Qn : Act → World → Prop) : Wt → Act → World → Prop
  | .nil, a, w => Qn a w
  | .q i t, a, w => ∃ o v, ops[i]? = some o ∧ Yd P ops C o v a ∧ wt P ops C z Qn t (a.put o.dst v) w
  | .p i t, a, w => ∃ o v, ops[i]? = some o ∧ Yd P ops (fun _ => True) o v a ∧ wt P ops C z Qn t (a.put o.dst v) w
  | .e i t, a, w => wpOp P ops NoQ i (fun a' w' => (i = z ∨ C w') ∧ wt P ops C z Qn t a' w') a w
  | .b2 i t j u, a, w => wpOp P ops NoQ i (fun a' w' => (i = z ∨ C w') ∧ wt P ops C z Qn t a' w') a w ∧ wpOp P ops NoQ j (fun a' w' => (j = z ∨ C w') ∧ wt P ops C z Qn u a' w') a w
  | .b3 i t j u k v, a, w => wpOp P ops NoQ i (fun a' w' => (i = z ∨ C w') ∧ wt P ops C z Qn t a' w') a w ∧ wpOp P ops NoQ j (fun a' w' => (j = z ∨ C w') ∧ wt P ops C z Qn u a' w') a w ∧ wpOp P ops NoQ k (fun a' w' => (k = z ∨ C w') ∧ wt P ops C z Qn v a' w') a w

def eqL : List Nat → List Nat → Bool
  | [], [] => true
  | x :: xs, y :: ys => Nat.beq x y && eqL xs ys
  | _, _ => false
theorem pos_succ {n : Nat} (h : Nat.blt 0 n = true) : ∃ m, n = m + 1 := by
  have : 0 < n := by simpa using h
  exact ⟨n - 1, by omega⟩
theorem eqL_eq : ∀ {xs ys : List Nat}, eqL xs ys = true → xs = ys := by
  intro xs
  induction xs with
  | nil => intro ys h; cases ys with
    | nil => rfl
    | cons _ _ => cases h
  | cons x xs ih => intro ys h; cases ys with
    | nil => cases h
    | cons y ys =>
      simp only [eqL, Bool.and_eq_true] at h
      rw [Nat.eq_of_beq_eq_true h.1, ih h.2]

def ckt (ops : Array Oper) (z : Nat) : Wt → Bool → Nat → Array Bool → Bool
  | .nil, _, n, listed => Nat.beq n 0 && (Region.ready .any ops listed).isEmpty
  | .q i t, f, n, listed => Nat.blt 0 n && (Region.ready .any ops listed).contains i && Region.free .any ops listed i && behindZ ops z i && !Nat.beq i z && !f && ckt ops z t f (n - 1) (listed.setIfInBounds i true)
  | .p i t, f, n, listed => Nat.blt 0 n && (Region.ready .any ops listed).contains i && Region.free .any ops listed i && !Nat.beq i z && ckt ops z t f (n - 1) (listed.setIfInBounds i true)
  | .e i t, f, n, listed => Nat.blt 0 n && eqL (Region.ready .any ops listed) [i] && ckt ops z t (f || Nat.beq i z) (n - 1) (listed.setIfInBounds i true)
  | .b2 i t j u, f, n, listed => Nat.blt 0 n && eqL (Region.ready .any ops listed) [i, j] && ckt ops z t (f || Nat.beq i z) (n - 1) (listed.setIfInBounds i true) && ckt ops z u (f || Nat.beq j z) (n - 1) (listed.setIfInBounds j true)
  | .b3 i t j u k v, f, n, listed => Nat.blt 0 n && eqL (Region.ready .any ops listed) [i, j, k] && ckt ops z t (f || Nat.beq i z) (n - 1) (listed.setIfInBounds i true) && ckt ops z u (f || Nat.beq j z) (n - 1) (listed.setIfInBounds j true) && ckt ops z v (f || Nat.beq k z) (n - 1) (listed.setIfInBounds k true)

theorem flag {f : Bool} {i z : Nat} {p : Prop} (h : i = z ∨ p) : (f || Nat.beq i z) = true ∨ p := by
  rcases h with rfl | h
  · exact .inl (by simp)
  · exact .inr h

theorem anyZ_of_wt {z : Nat} (hs : Region.noSelect ops = true) : ∀ (π : Wt) (f : Bool) (n : Nat) (listed : Array Bool) (a : Act) (w : World), ckt ops z π f n listed = true → (f = true ∨ C w) → wt P ops C z Qn π a w → anyZ P ops C z Qn f n listed a w := by
  intro π
  induction π with
  | nil =>
    intro f n listed a w hc _ h
    simp only [ckt, Bool.and_eq_true] at hc
    have : n = 0 := Nat.eq_of_beq_eq_true hc.1
    subst this
    exact ⟨by simpa using hc.2, h⟩
  | q i t ih =>
    intro f n listed a w hc hC h
    simp only [ckt, Bool.and_eq_true] at hc
    obtain ⟨⟨⟨⟨⟨⟨hn, hr⟩, hf⟩, hb⟩, hiz⟩, hff⟩, hc'⟩ := hc
    obtain ⟨m, rfl⟩ : ∃ m, n = m + 1 := pos_succ hn
    obtain ⟨o, v, ho, hy, h'⟩ := h
    have hf0 : f = false := by simpa using hff
    subst hf0
    have hC2 : C w := by
      rcases hC with h | h
      · cases h
      · exact h
    exact anyZ_first ho (by simpa using hiz) (behindZ_spec hb) (Region.noSelect_spec hs) m listed a w (Region.free_spec ho hf) (by simpa using hr) hy hC2 (ih _ _ _ _ _ hc' (.inr hC2) h')
  | p i t ih =>
    intro f n listed a w hc hC h
    simp only [ckt, Bool.and_eq_true] at hc
    obtain ⟨⟨⟨⟨hn, hr⟩, hf⟩, hiz⟩, hc'⟩ := hc
    obtain ⟨m, rfl⟩ : ∃ m, n = m + 1 := pos_succ hn
    obtain ⟨o, v, ho, hy, h'⟩ := h
    exact anyZ_pure ho (by simpa using hiz) (Region.noSelect_spec hs) m f listed a w (Region.free_spec ho hf) (by simpa using hr) hy hC (ih _ _ _ _ _ hc' hC h')
  | e i t ih =>
    intro f n listed a w hc hC h
    simp only [ckt, Bool.and_eq_true] at hc
    obtain ⟨⟨hn, hr⟩, hc'⟩ := hc
    obtain ⟨m, rfl⟩ : ∃ m, n = m + 1 := pos_succ hn
    have hri := eqL_eq hr
    refine ⟨fun h0 => (by rw [hri] at h0; cases h0), fun j hj => ?_⟩
    rw [hri] at hj
    simp only [List.mem_cons, List.not_mem_nil, or_false] at hj
    subst hj
    exact wpOp_mono (fun a' w' h' => ⟨flag h'.1, ih _ _ _ _ _ hc' (flag h'.1) h'.2⟩) h
  | b2 i t j u ih1 ih2 =>
    intro f n listed a w hc hC h
    simp only [ckt, Bool.and_eq_true] at hc
    obtain ⟨⟨⟨hn, hr⟩, hc1⟩, hc2⟩ := hc
    obtain ⟨m, rfl⟩ : ∃ m, n = m + 1 := pos_succ hn
    have hri := eqL_eq hr
    refine ⟨fun h0 => (by rw [hri] at h0; cases h0), fun j hj => ?_⟩
    rw [hri] at hj
    simp only [List.mem_cons, List.not_mem_nil, or_false] at hj
    rcases hj with rfl | rfl
    · exact wpOp_mono (fun a' w' h' => ⟨flag h'.1, ih1 _ _ _ _ _ hc1 (flag h'.1) h'.2⟩) h.1
    · exact wpOp_mono (fun a' w' h' => ⟨flag h'.1, ih2 _ _ _ _ _ hc2 (flag h'.1) h'.2⟩) h.2
  | b3 i t j u k v ih1 ih2 ih3 =>
    intro f n listed a w hc hC h
    simp only [ckt, Bool.and_eq_true] at hc
    obtain ⟨⟨⟨⟨hn, hr⟩, hc1⟩, hc2⟩, hc3⟩ := hc
    obtain ⟨m, rfl⟩ : ∃ m, n = m + 1 := pos_succ hn
    have hri := eqL_eq hr
    refine ⟨fun h0 => (by rw [hri] at h0; cases h0), fun j hj => ?_⟩
    rw [hri] at hj
    simp only [List.mem_cons, List.not_mem_nil, or_false] at hj
    rcases hj with rfl | rfl | rfl
    · exact wpOp_mono (fun a' w' h' => ⟨flag h'.1, ih1 _ _ _ _ _ hc1 (flag h'.1) h'.2⟩) h.1
    · exact wpOp_mono (fun a' w' h' => ⟨flag h'.1, ih2 _ _ _ _ _ hc2 (flag h'.1) h'.2⟩) h.2.1
    · exact wpOp_mono (fun a' w' h' => ⟨flag h'.1, ih3 _ _ _ _ _ hc3 (flag h'.1) h'.2⟩) h.2.2

def ckTree (ops : Array Oper) (z : Nat) (π : Wt) : Bool := Region.noSelect ops && ckt ops z π false ops.size (Array.replicate ops.size false)

theorem region_wt {z : Nat} {id : Nat} {Q : Exit → Act → World → Prop} {a : Act} {w : World} (π : Wt) (hm : P.follows .mixedOrders = true) (hck : ckTree ops z π = true) (hC : C w.drew)
    (h : wt P ops C z (fun a w => Q .normal a w) π a w.drew) : (Code.region id ops true).wp P Q a w := by
  simp only [ckTree, Bool.and_eq_true] at hck
  exact wp_region_any hm (any_of_anyZ (C := C) (z := z) (Qn := fun a w => Q .normal a w) (fun _ _ h => h) _ _ _ _ _ (anyZ_of_wt hck.1 π false _ _ a _ hck.2 (.inr hC) h))
end

section
variable {P : Program} {w w0 : World} {F0 : Nat → Prop} {R RE : List Mem} {Q : Exit → Act → World → Prop} {Qn : Act → World → Prop} {l : List Oper} {N : FN} {L : List (Nat × Value)} {a : Act} {ty : TypeId} {pos : String} {af : Array Edge} {op : Op} {y : Code} {id z : Nat} {ops : Array Oper} {π t u v3 : Wt}

theorem seq_wt (z : Nat) (π : Wt) (hm : P.follows .mixedOrders = true) (hck : ckTree l.toArray z π = true) (SE : St w0 F0 RE w.drew)
    (h : ∀ K : Act → World → Prop, (∀ a w, y.wp P Q a w → K a w) → wt P l.toArray (fun w' => St w0 F0 RE w') z K π a w.drew) : (Code.seq (.region id l.toArray true) y).wp P Q a w :=
  wp_seq (region_wt π hm hck SE (h _ (fun _ _ h => h)))
theorem one_wt (z : Nat) (π : Wt) (hm : P.follows .mixedOrders = true) (hck : ckTree l.toArray z π = true) (SE : St w0 F0 RE w.drew)
    (h : wt P l.toArray (fun w' => St w0 F0 RE w') z (fun a w => Q .normal a w) π a w.drew) : (Code.region id l.toArray true).wp P Q a w := region_wt π hm hck SE h
theorem wt_nil {C : World → Prop} (h : Qn a w) : wt P ops C z Qn .nil a w := h
theorem wt_does {C : World → Prop} {i d : Nat} {v : Value} (H : Fr N L a) (hi : ops[i]? = some ⟨some d, op, ty, pos, af, none⟩) (hd : Nat.blt d N.n = true) (h : ∀ w', C w' → Does P L ⟨some d, op, ty, pos, af, none⟩ w' v)
    (k : ∀ a', Fr N ((d, v) :: L) a' → wt P ops C z Qn π a' w) : wt P ops C z Qn (.q i π) a w :=
  ⟨_, v, hi, .inl ⟨rfl, fun w' hC => h w' hC a.eval (fun x u hx => H.eval hx)⟩, k _ (H.put v hd)⟩
theorem wt_pure {C : World → Prop} {i d : Nat} {v : Value} (H : Fr N L a) (hi : ops[i]? = some ⟨some d, op, ty, pos, af, none⟩) (hd : Nat.blt d N.n = true) (h : ∀ w', Does P L ⟨some d, op, ty, pos, af, none⟩ w' v)
    (k : ∀ a', Fr N ((d, v) :: L) a' → wt P ops C z Qn π a' w) : wt P ops C z Qn (.p i π) a w :=
  ⟨_, v, hi, .inl ⟨rfl, fun w' _ => h w' a.eval (fun x u hx => H.eval hx)⟩, k _ (H.put v hd)⟩
theorem op_eff {C : World → Prop} {i : Nat} {o : Oper} (hi : ops[i]? = some o) (h : wpList P ops (onlyN fun a' w' => (i = z ∨ C w') ∧ wt P ops C z Qn π a' w') [o] a w) : wpOp P ops NoQ i (fun a' w' => (i = z ∨ C w') ∧ wt P ops C z Qn π a' w') a w := by
  unfold wpOp
  simp only [hi]
  unfold wpList at h
  split
  · rename_i hw
    rw [if_pos hw] at h
    rcases h with h | ⟨_, _, _, h⟩
    · exact .inl (upon_only h)
    · exact h.elim
  · rename_i hw
    rw [if_neg hw] at h
    exact h
theorem wt_eff {C : World → Prop} {i : Nat} {o : Oper} (hi : ops[i]? = some o) (h : wpList P ops (onlyN fun a' w' => (i = z ∨ C w') ∧ wt P ops C z Qn π a' w') [o] a w) : wt P ops C z Qn (.e i π) a w := op_eff hi h
theorem wt_b2 {C : World → Prop} {i j : Nat} {o o' : Oper} (hi : ops[i]? = some o) (hj : ops[j]? = some o') (h : wpList P ops (onlyN fun a' w' => (i = z ∨ C w') ∧ wt P ops C z Qn t a' w') [o] a w) (h' : wpList P ops (onlyN fun a' w' => (j = z ∨ C w') ∧ wt P ops C z Qn u a' w') [o'] a w) : wt P ops C z Qn (.b2 i t j u) a w := ⟨op_eff hi h, op_eff hj h'⟩
theorem wt_b3 {C : World → Prop} {i j k : Nat} {o o' o'' : Oper} (hi : ops[i]? = some o) (hj : ops[j]? = some o') (hk : ops[k]? = some o'') (h : wpList P ops (onlyN fun a' w' => (i = z ∨ C w') ∧ wt P ops C z Qn t a' w') [o] a w) (h' : wpList P ops (onlyN fun a' w' => (j = z ∨ C w') ∧ wt P ops C z Qn u a' w') [o'] a w) (h'' : wpList P ops (onlyN fun a' w' => (k = z ∨ C w') ∧ wt P ops C z Qn v3 a' w') [o''] a w) : wt P ops C z Qn (.b3 i t j u k v3) a w := ⟨op_eff hi h, op_eff hj h', op_eff hk h''⟩
end
end Go.Proofs.Ytlmddkekeoebcaa
