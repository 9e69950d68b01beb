/- As XTree, with statements in which four operations write in any order. -/
import Derived.Test.YtopmadlgolnmfaaE2
namespace Go.Proofs.Ytopmadlgolnmfaa
set_option linter.unusedVariables false
set_option linter.unusedSimpArgs false
open Go.RowKit

inductive Xt where
  | nil
  | q (i : Nat) (t : Xt)
  | p (i : Nat) (t : Xt)
  | e (i : Nat) (t : Xt)
  | b2 (i : Nat) (t : Xt) (j : Nat) (u : Xt)
  | b3 (i : Nat) (t : Xt) (j : Nat) (u : Xt) (k : Nat) (v : Xt)
  | b4 (i : Nat) (t : Xt) (j : Nat) (u : Xt) (k : Nat) (v : Xt) (m : Nat) (x : Xt)

section
variable {P : Program} {ops : Array Oper} {C : World → Prop} {Qn : Act → World → Prop}
def xt (P : Program) (ops : Array Oper) (C : World → Prop) (z : Nat) (Qn : Act → World → Prop) : Xt → Act → World → Prop
  | .nil, a, w => Qn a w
  | .q i t, a, w => ∃ o v, ops[i]? = some o ∧ Yd P ops C o v a ∧ xt P ops C z Qn t (a.put o.dst v) w
  | .p i t, a, w => ∃ o v, ops[i]? = some o ∧ Yd P ops (fun _ => True) o v a ∧ xt P ops C z Qn t (a.put o.dst v) w
  | .e i t, a, w => wpOp P ops NoQ i (fun a' w' => (i = z ∨ C w') ∧ xt P ops C z Qn t a' w') a w
  | .b2 i t j u, a, w => wpOp P ops NoQ i (fun a' w' => (i = z ∨ C w') ∧ xt P ops C z Qn t a' w') a w ∧ wpOp P ops NoQ j (fun a' w' => (j = z ∨ C w') ∧ xt P ops C z Qn u a' w') a w
  | .b3 i t j u k v, a, w => wpOp P ops NoQ i (fun a' w' => (i = z ∨ C w') ∧ xt P ops C z Qn t a' w') a w ∧ wpOp P ops NoQ j (fun a' w' => (j = z ∨ C w') ∧ xt P ops C z Qn u a' w') a w ∧ wpOp P ops NoQ k (fun a' w' => (k = z ∨ C w') ∧ xt P ops C z Qn v a' w') a w
  | .b4 i t j u k v m x, a, w => wpOp P ops NoQ i (fun a' w' => (i = z ∨ C w') ∧ xt P ops C z Qn t a' w') a w ∧ wpOp P ops NoQ j (fun a' w' => (j = z ∨ C w') ∧ xt P ops C z Qn u a' w') a w ∧ wpOp P ops NoQ k (fun a' w' => (k = z ∨ C w') ∧ xt P ops C z Qn v a' w') a w ∧ wpOp P ops NoQ m (fun a' w' => (m = z ∨ C w') ∧ xt P ops C z Qn x a' w') a w

def ckx (ops : Array Oper) (z : Nat) : Xt → Bool → Nat → Array Bool → Bool
  | .nil, _, n, listed => Nat.beq n 0 && (Region.ready .any ops listed).isEmpty
  | .q i t, f, n, listed => Nat.blt 0 n && (Region.ready .any ops listed).contains i && Region.free .any ops listed i && behindZ ops z i && !Nat.beq i z && !f && ckx ops z t f (n - 1) (listed.setIfInBounds i true)
  | .p i t, f, n, listed => Nat.blt 0 n && (Region.ready .any ops listed).contains i && Region.free .any ops listed i && !Nat.beq i z && ckx ops z t f (n - 1) (listed.setIfInBounds i true)
  | .e i t, f, n, listed => Nat.blt 0 n && eqL (Region.ready .any ops listed) [i] && ckx ops z t (f || Nat.beq i z) (n - 1) (listed.setIfInBounds i true)
  | .b2 i t j u, f, n, listed => Nat.blt 0 n && eqL (Region.ready .any ops listed) [i, j] && ckx ops z t (f || Nat.beq i z) (n - 1) (listed.setIfInBounds i true) && ckx ops z u (f || Nat.beq j z) (n - 1) (listed.setIfInBounds j true)
  | .b3 i t j u k v, f, n, listed => Nat.blt 0 n && eqL (Region.ready .any ops listed) [i, j, k] && ckx ops z t (f || Nat.beq i z) (n - 1) (listed.setIfInBounds i true) && ckx ops z u (f || Nat.beq j z) (n - 1) (listed.setIfInBounds j true) && ckx ops z v (f || Nat.beq k z) (n - 1) (listed.setIfInBounds k true)
  | .b4 i t j u k v m x, f, n, listed => Nat.blt 0 n && eqL (Region.ready .any ops listed) [i, j, k, m] && ckx ops z t (f || Nat.beq i z) (n - 1) (listed.setIfInBounds i true) && ckx ops z u (f || Nat.beq j z) (n - 1) (listed.setIfInBounds j true) && ckx ops z v (f || Nat.beq k z) (n - 1) (listed.setIfInBounds k true) && ckx ops z x (f || Nat.beq m z) (n - 1) (listed.setIfInBounds m true)

theorem anyZ_of_xt {z : Nat} (hs : Region.noSelect ops = true) : ∀ (π : Xt) (f : Bool) (n : Nat) (listed : Array Bool) (a : Act) (w : World), ckx ops z π f n listed = true → (f = true ∨ C w) → xt P ops C z Qn π a w → anyZ P ops C z Qn f n listed a w := by
  intro π
  induction π with
  | nil =>
    intro f n listed a w hc _ h
    simp only [ckx, Bool.and_eq_true] at hc
    have : n = 0 := Nat.eq_of_beq_eq_true hc.1
    subst this
    exact ⟨by simpa using hc.2, h⟩
  | q i t ih =>
    intro f n listed a w hc hC h
    simp only [ckx, Bool.and_eq_true] at hc
    obtain ⟨⟨⟨⟨⟨⟨hn, hr⟩, hf⟩, hb⟩, hiz⟩, hff⟩, hc'⟩ := hc
    obtain ⟨m, rfl⟩ : ∃ m, n = m + 1 := pos_succ hn
    obtain ⟨o, v, ho, hy, h'⟩ := h
    have hf0 : f = false := by simpa using hff
    subst hf0
    have hC2 : C w := by
      rcases hC with h | h
      · cases h
      · exact h
    exact anyZ_first ho (by simpa using hiz) (behindZ_spec hb) (Region.noSelect_spec hs) m listed a w (Region.free_spec ho hf) (by simpa using hr) hy hC2 (ih _ _ _ _ _ hc' (.inr hC2) h')
  | p i t ih =>
    intro f n listed a w hc hC h
    simp only [ckx, Bool.and_eq_true] at hc
    obtain ⟨⟨⟨⟨hn, hr⟩, hf⟩, hiz⟩, hc'⟩ := hc
    obtain ⟨m, rfl⟩ : ∃ m, n = m + 1 := pos_succ hn
    obtain ⟨o, v, ho, hy, h'⟩ := h
    exact anyZ_pure ho (by simpa using hiz) (Region.noSelect_spec hs) m f listed a w (Region.free_spec ho hf) (by simpa using hr) hy hC (ih _ _ _ _ _ hc' hC h')
  | e i t ih =>
    intro f n listed a w hc hC h
    simp only [ckx, Bool.and_eq_true] at hc
    obtain ⟨⟨hn, hr⟩, hc'⟩ := hc
    obtain ⟨m, rfl⟩ : ∃ m, n = m + 1 := pos_succ hn
    have hri := eqL_eq hr
    refine ⟨fun h0 => (by rw [hri] at h0; cases h0), fun j hj => ?_⟩
    rw [hri] at hj
    simp only [List.mem_cons, List.not_mem_nil, or_false] at hj
    subst hj
    exact wpOp_mono (fun a' w' h' => ⟨flag h'.1, ih _ _ _ _ _ hc' (flag h'.1) h'.2⟩) h
  | b2 i t j u ih1 ih2 =>
    intro f n listed a w hc hC h
    simp only [ckx, Bool.and_eq_true] at hc
    obtain ⟨⟨⟨hn, hr⟩, hc1⟩, hc2⟩ := hc
    obtain ⟨m, rfl⟩ : ∃ m, n = m + 1 := pos_succ hn
    have hri := eqL_eq hr
    refine ⟨fun h0 => (by rw [hri] at h0; cases h0), fun j hj => ?_⟩
    rw [hri] at hj
    simp only [List.mem_cons, List.not_mem_nil, or_false] at hj
    rcases hj with rfl | rfl
    · exact wpOp_mono (fun a' w' h' => ⟨flag h'.1, ih1 _ _ _ _ _ hc1 (flag h'.1) h'.2⟩) h.1
    · exact wpOp_mono (fun a' w' h' => ⟨flag h'.1, ih2 _ _ _ _ _ hc2 (flag h'.1) h'.2⟩) h.2
  | b3 i t j u k v ih1 ih2 ih3 =>
    intro f n listed a w hc hC h
    simp only [ckx, Bool.and_eq_true] at hc
    obtain ⟨⟨⟨⟨hn, hr⟩, hc1⟩, hc2⟩, hc3⟩ := hc
    obtain ⟨m, rfl⟩ : ∃ m, n = m + 1 := pos_succ hn
    have hri := eqL_eq hr
    refine ⟨fun h0 => (by rw [hri] at h0; cases h0), fun j hj => ?_⟩
    rw [hri] at hj
    simp only [List.mem_cons, List.not_mem_nil, or_false] at hj
    rcases hj with rfl | rfl | rfl
    · exact wpOp_mono (fun a' w' h' => ⟨flag h'.1, ih1 _ _ _ _ _ hc1 (flag h'.1) h'.2⟩) h.1
    · exact wpOp_mono (fun a' w' h' => ⟨flag h'.1, ih2 _ _ _ _ _ hc2 (flag h'.1) h'.2⟩) h.2.1
    · exact wpOp_mono (fun a' w' h' => ⟨flag h'.1, ih3 _ _ _ _ _ hc3 (flag h'.1) h'.2⟩) h.2.2
  | b4 i t j u k v m x ih1 ih2 ih3 ih4 =>
    intro f n listed a w hc hC h
    simp only [ckx, Bool.and_eq_true] at hc
    obtain ⟨⟨⟨⟨⟨hn, hr⟩, hc1⟩, hc2⟩, hc3⟩, hc4⟩ := hc
    obtain ⟨m', rfl⟩ : ∃ m', n = m' + 1 := pos_succ hn
    have hri := eqL_eq hr
    refine ⟨fun h0 => (by rw [hri] at h0; cases h0), fun j hj => ?_⟩
    rw [hri] at hj
    simp only [List.mem_cons, List.not_mem_nil, or_false] at hj
    rcases hj with rfl | rfl | rfl | rfl
    · exact wpOp_mono (fun a' w' h' => ⟨flag h'.1, ih1 _ _ _ _ _ hc1 (flag h'.1) h'.2⟩) h.1
    · exact wpOp_mono (fun a' w' h' => ⟨flag h'.1, ih2 _ _ _ _ _ hc2 (flag h'.1) h'.2⟩) h.2.1
    · exact wpOp_mono (fun a' w' h' => ⟨flag h'.1, ih3 _ _ _ _ _ hc3 (flag h'.1) h'.2⟩) h.2.2.1
    · exact wpOp_mono (fun a' w' h' => ⟨flag h'.1, ih4 _ _ _ _ _ hc4 (flag h'.1) h'.2⟩) h.2.2.2

def ckXree (ops : Array Oper) (z : Nat) (π : Xt) : Bool := Region.noSelect ops && ckx ops z π false ops.size (Array.replicate ops.size false)

theorem region_xt {z : Nat} {id : Nat} {Q : Exit → Act → World → Prop} {a : Act} {w : World} (π : Xt) (hm : P.follows .mixedOrders = true) (hck : ckXree ops z π = true) (hC : C w.drew)
    (h : xt P ops C z (fun a w => Q .normal a w) π a w.drew) : (Code.region id ops true).wp P Q a w := by
  simp only [ckXree, Bool.and_eq_true] at hck
  exact wp_region_any hm (any_of_anyZ (C := C) (z := z) (Qn := fun a w => Q .normal a w) (fun _ _ h => h) _ _ _ _ _ (anyZ_of_xt hck.1 π false _ _ a _ hck.2 (.inr hC) h))
end

section
variable {P : Program} {w w0 : World} {F0 : Nat → Prop} {R RE : List Mem} {Q : Exit → Act → World → Prop} {Qn : Act → World → Prop} {l : List Oper} {N : FN} {L : List (Nat × Value)} {a : Act} {ty : TypeId} {pos : String} {af : Array Edge} {op : Op} {y : Code} {id z : Nat} {ops : Array Oper} {π t u v3 : Xt}

theorem seq_xt (z : Nat) (π : Xt) (hm : P.follows .mixedOrders = true) (hck : ckXree l.toArray z π = true) (SE : St w0 F0 RE w.drew)
    (h : ∀ K : Act → World → Prop, (∀ a w, y.wp P Q a w → K a w) → xt P l.toArray (fun w' => St w0 F0 RE w') z K π a w.drew) : (Code.seq (.region id l.toArray true) y).wp P Q a w :=
  wp_seq (region_xt π hm hck SE (h _ (fun _ _ h => h)))
theorem xt_nil {C : World → Prop} (h : Qn a w) : xt P ops C z Qn .nil a w := h
theorem xt_does {C : World → Prop} {i d : Nat} {v : Value} (H : Fr N L a) (hi : ops[i]? = some ⟨some d, op, ty, pos, af, none⟩) (hd : Nat.blt d N.n = true) (h : ∀ w', C w' → Does P L ⟨some d, op, ty, pos, af, none⟩ w' v)
    (k : ∀ a', Fr N ((d, v) :: L) a' → xt P ops C z Qn π a' w) : xt P ops C z Qn (.q i π) a w :=
  ⟨_, v, hi, .inl ⟨rfl, fun w' hC => h w' hC a.eval (fun x u hx => H.eval hx)⟩, k _ (H.put v hd)⟩
theorem op_effx {C : World → Prop} {i : Nat} {o : Oper} (hi : ops[i]? = some o) (h : wpList P ops (onlyN fun a' w' => (i = z ∨ C w') ∧ xt P ops C z Qn π a' w') [o] a w) : wpOp P ops NoQ i (fun a' w' => (i = z ∨ C w') ∧ xt P ops C z Qn π a' w') a w := by
  unfold wpOp
  simp only [hi]
  unfold wpList at h
  split
  · rename_i hw
    rw [if_pos hw] at h
    rcases h with h | ⟨_, _, _, h⟩
    · exact .inl (upon_only h)
    · exact h.elim
  · rename_i hw
    rw [if_neg hw] at h
    exact h
theorem xt_eff {C : World → Prop} {i : Nat} {o : Oper} (hi : ops[i]? = some o) (h : wpList P ops (onlyN fun a' w' => (i = z ∨ C w') ∧ xt P ops C z Qn π a' w') [o] a w) : xt P ops C z Qn (.e i π) a w := op_effx hi h
theorem xt_b2 {C : World → Prop} {i j : Nat} {o o' : Oper} (hi : ops[i]? = some o) (hj : ops[j]? = some o') (h : wpList P ops (onlyN fun a' w' => (i = z ∨ C w') ∧ xt P ops C z Qn t a' w') [o] a w) (h' : wpList P ops (onlyN fun a' w' => (j = z ∨ C w') ∧ xt P ops C z Qn u a' w') [o'] a w) : xt P ops C z Qn (.b2 i t j u) a w := ⟨op_effx hi h, op_effx hj h'⟩
theorem xt_b3 {C : World → Prop} {i j k : Nat} {o o' o'' : Oper} (hi : ops[i]? = some o) (hj : ops[j]? = some o') (hk : ops[k]? = some o'') (h : wpList P ops (onlyN fun a' w' => (i = z ∨ C w') ∧ xt P ops C z Qn t a' w') [o] a w) (h' : wpList P ops (onlyN fun a' w' => (j = z ∨ C w') ∧ xt P ops C z Qn u a' w') [o'] a w) (h'' : wpList P ops (onlyN fun a' w' => (k = z ∨ C w') ∧ xt P ops C z Qn v3 a' w') [o''] a w) : xt P ops C z Qn (.b3 i t j u k v3) a w := ⟨op_effx hi h, op_effx hj h', op_effx hk h''⟩
theorem xt_b4 {C : World → Prop} {i j k m : Nat} {o1 o2 o3 o4 : Oper} {v4 : Xt} (hi : ops[i]? = some o1) (hj : ops[j]? = some o2) (hk : ops[k]? = some o3) (hm : ops[m]? = some o4) (h1 : wpList P ops (onlyN fun a' w' => (i = z ∨ C w') ∧ xt P ops C z Qn t a' w') [o1] a w) (h2 : wpList P ops (onlyN fun a' w' => (j = z ∨ C w') ∧ xt P ops C z Qn u a' w') [o2] a w) (h3 : wpList P ops (onlyN fun a' w' => (k = z ∨ C w') ∧ xt P ops C z Qn v3 a' w') [o3] a w) (h4 : wpList P ops (onlyN fun a' w' => (m = z ∨ C w') ∧ xt P ops C z Qn v4 a' w') [o4] a w) : xt P ops C z Qn (.b4 i t j u k v3 m v4) a w := ⟨op_effx hi h1, op_effx hj h2, op_effx hk h3, op_effx hm h4⟩
end
end Go.Proofs.Ytopmadlgolnmfaa
