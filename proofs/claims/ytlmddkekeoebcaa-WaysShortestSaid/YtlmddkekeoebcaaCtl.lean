/- Statements: regions, tests, loops, returns; and the operations that turn the world. -/
import Derived.Test.YtlmddkekeoebcaaOps
import Derived.Maps.AppendAt
namespace Go.Proofs.Ytlmddkekeoebcaa
set_option linter.unusedVariables false
set_option linter.unusedSimpArgs false
open Go.RowKit

section
variable {P : Program} {ops : Array Oper} {w : World} {Q : Exit → Act → World → Prop} {Qs : Act → Prop} {rest l : List Oper} {N : FN} {L : List (Nat × Value)} {a : Act} {ty : TypeId} {pos : String} {af : Array Edge} {op : Op} {o : Oper}

/-! ## lists of operations -/
theorem list_does {d : Nat} {v : Value} (H : Fr N L a) (hd : Nat.blt d N.n = true) (h : Does P L ⟨some d, op, ty, pos, af, none⟩ w v)
    (k : ∀ a', Fr N ((d, v) :: L) a' → wpList P ops Q rest a' w) : wpList P ops Q (⟨some d, op, ty, pos, af, none⟩ :: rest) a w := by
  refine wpList_plain rfl fun K hK => ?_
  unfold Oper.wp
  rw [h a.eval (fun x u hx => H.eval hx)]
  exact hK _ _ (k _ (H.put v hd))

theorem list_of_still : ∀ (l1 : List Oper) (l2 : List Oper) (a : Act), wpStill P ops w (fun a' => wpList P ops Q l2 a' w) l1 a → wpList P ops Q (l1 ++ l2) a w := by
  intro l1
  induction l1 with
  | nil => intro l2 a h; exact h
  | cons o l1 ih =>
    intro l2 a h
    simp only [wpStill] at h
    refine wpList_step fun K hK => ?_
    split
    · rename_i hw
      rw [if_pos hw] at h
      exact Oper.wp_of_still (fun a' ha' => hK _ _ (ih l2 a' ha')) h
    · rename_i hw
      rw [if_neg hw] at h
      exact hK _ _ (ih l2 _ h)

theorem list_still (m : Nat) (h : wpStill P ops w (fun a' => wpList P ops Q (l.drop m) a' w) (l.take m) a) : wpList P ops Q l a w := by
  have := list_of_still (P := P) (ops := ops) (Q := Q) (l.take m) (l.drop m) a h
  rwa [List.take_append_drop] at this

theorem wanted_no {d : Option Nat} {i g : Nat} {b c : Bool} (H : Fr N L a) (hg : (ops[i]?).bind (·.dst) = some g) (hc : look L g = some (.bool c)) (hne : (c == b) = false) :
    Region.wanted ⟨d, op, ty, pos, af, some (i, b)⟩ (yielded ops a.tmps) = false := by
  simp only [Region.wanted, yielded, hg, Option.bind_some, H.at_ g _ hc]
  cases b <;> cases c <;> simp_all

theorem wanted_yes {d : Option Nat} {i g : Nat} {b : Bool} (H : Fr N L a) (hg : (ops[i]?).bind (·.dst) = some g) (hb : look L g = some (.bool b)) :
    Region.wanted ⟨d, op, ty, pos, af, some (i, b)⟩ (yielded ops a.tmps) = true := by
  simp only [Region.wanted, yielded, hg, Option.bind_some, H.at_ g _ hb]
  simp

theorem list_yes {d : Option Nat} {i g : Nat} {b : Bool} (H : Fr N L a) (hg : (ops[i]?).bind (·.dst) = some g) (hb : look L g = some (.bool b))
    (k : wpList P ops Q (⟨d, op, ty, pos, af, none⟩ :: rest) a w) : wpList P ops Q (⟨d, op, ty, pos, af, some (i, b)⟩ :: rest) a w := by
  unfold wpList at k ⊢
  rw [if_pos (wanted_yes H hg hb)]
  simpa [Region.wanted, Oper.wp, Oper.upon, Oper.asks, execOp] using k

theorem list_no {d : Nat} {i g : Nat} {b c : Bool} (H : Fr N L a) (hg : (ops[i]?).bind (·.dst) = some g) (hc : look L g = some (.bool c)) (hne : (c == b) = false) (hd : Nat.blt d N.n = true)
    (k : ∀ a', Fr N ((d, undef) :: L) a' → wpList P ops Q rest a' w) : wpList P ops Q (⟨some d, op, ty, pos, af, some (i, b)⟩ :: rest) a w := by
  unfold wpList
  rw [if_neg (by rw [wanted_no H hg hc hne]; simp)]
  exact k _ (H.put _ hd)

theorem still_no {d : Nat} {i g : Nat} {b c : Bool} (H : Fr N L a) (hg : (ops[i]?).bind (·.dst) = some g) (hc : look L g = some (.bool c)) (hne : (c == b) = false) (hd : Nat.blt d N.n = true)
    (k : ∀ a', Fr N ((d, undef) :: L) a' → wpStill P ops w Qs rest a') : wpStill P ops w Qs (⟨some d, op, ty, pos, af, some (i, b)⟩ :: rest) a := by
  unfold wpStill
  rw [if_neg (by rw [wanted_no H hg hc hne]; simp)]
  exact k _ (H.put _ hd)

theorem still_yes' {d : Option Nat} {i g : Nat} {b c : Bool} (H : Fr N L a) (hg : (ops[i]?).bind (·.dst) = some g) (hc : look L g = some (.bool c)) (e : c = b)
    (k : wpStill P ops w Qs (⟨d, op, ty, pos, af, none⟩ :: rest) a) : wpStill P ops w Qs (⟨d, op, ty, pos, af, some (i, b)⟩ :: rest) a := by
  subst e
  exact still_yes H hg hc k

/-! ## a stretch that runs under a guard alone: 'a or b', 'a and b' -/
/-- What a slot holds that was written under a guard. -/
def gv (c b : Bool) (v : Value) : Value := bif c == b then v else undef

def skips (ops : Array Oper) (i g : Nat) (b : Bool) : List Nat → List Oper → Bool
  | _, [] => true
  | U, o :: l => (match o.guard with
      | some (j, b') => (Nat.beq j i && (b' == b)) || (match (ops[j]?).bind (·.dst) with | some s => U.any (Nat.beq s) | none => false)
      | none => false) && (match o.dst with | some d => !(Nat.beq d g) && skips ops i g b (d :: U) l | none => skips ops i g b U l)

def clean (L : List (Nat × Value)) : List Oper → Bool
  | [] => true
  | o :: l => (match o.dst with
      | some d => (match look L d with | none => true | some _ => false)
      | none => true) && clean L l

def writes (t : Nat) : List Oper → Bool
  | [] => false
  | o :: l => (match o.dst with | some d => Nat.beq d t | none => false) || writes t l

theorem Fr.put_clean (H : Fr N L a) {d : Nat} (v : Value) (hd : look L d = none) : Fr N L (a.put (some d) v) := by
  refine ⟨by simp [Act.put, H.size], H.defs, fun t u h => ?_⟩
  have hne : d ≠ t := by intro e; subst e; rw [hd] at h; cases h
  simp only [Act.put]
  rw [Array.getElem?_setIfInBounds_ne hne]
  exact H.at_ t u h

theorem not_wanted {i : Nat} {b : Bool} {d : Option Nat} (h : ∀ s, (ops[i]?).bind (·.dst) = some s → ∀ q, a.tmps[s]? = some (.bool q) → q ≠ b) :
    Region.wanted ⟨d, op, ty, pos, af, some (i, b)⟩ (yielded ops a.tmps) = false := by
  simp only [Region.wanted, yielded]
  cases hs : (ops[i]?).bind (·.dst) with
  | none => simp
  | some s =>
    simp only [Option.bind_some]
    cases hv : a.tmps[s]? with
    | none => simp
    | some v =>
      cases v with
      | bool q => have := h s hs q hv; simp; exact fun e => this e
      | _ => simp

theorem still_skip {i g : Nat} {b c : Bool} (hg : (ops[i]?).bind (·.dst) = some g) (hcb : c ≠ b) :
    ∀ (l : List Oper) (U : List Nat) (a : Act), Fr N L a → a.tmps[g]? = some (.bool c) → (∀ s ∈ U, s < N.n → a.tmps[s]? = some undef) →
      skips ops i g b U l = true → clean L l = true →
      (∀ a', Fr N L a' → (∀ s, (s ∈ U ∨ writes s l = true) → s < N.n → a'.tmps[s]? = some undef) → Qs a') →
      wpStill P ops w Qs l a := by
  intro l
  induction l with
  | nil => intro U a H _ hU _ _ k; exact k a H (fun s hs hlt => hU s (by simpa [writes] using hs) hlt)
  | cons o l ih =>
    intro U a H hgc hU hs hcl k
    obtain ⟨d, op, ty, pos, af, gd⟩ := o
    simp only [skips, Bool.and_eq_true] at hs
    simp only [clean, Bool.and_eq_true] at hcl
    obtain ⟨hs1, hs2⟩ := hs
    have hw : Region.wanted ⟨d, op, ty, pos, af, gd⟩ (yielded ops a.tmps) = false := by
      cases gd with
      | none => simp at hs1
      | some p =>
        obtain ⟨j, b'⟩ := p
        refine not_wanted fun s hsj q hq => ?_
        simp only [Bool.or_eq_true, Bool.and_eq_true] at hs1
        rcases hs1 with ⟨h1, h2⟩ | h1
        · have := Nat.eq_of_beq_eq_true h1
          subst this
          rw [hg, Option.some.injEq] at hsj
          subst hsj
          rw [hgc] at hq
          simp at hq h2
          subst hq; subst h2
          exact hcb
        · rw [hsj] at h1
          simp only [List.any_eq_true] at h1
          obtain ⟨u, hu, he⟩ := h1
          have := Nat.eq_of_beq_eq_true he
          subst this
          have hlt : s < N.n := by
            have := (Array.getElem?_eq_some_iff.1 hq).1
            rw [H.size] at this
            exact this
          rw [hU s hu hlt] at hq
          simp [undef] at hq
    unfold wpStill
    rw [if_neg (by rw [hw]; simp)]
    cases d with
    | none =>
      refine ih U _ H hgc hU hs2 hcl.2 fun a' H' h' => k a' H' fun s hs hlt => h' s ?_ hlt
      simpa [writes] using hs
    | some d =>
      simp only [Bool.and_eq_true, Bool.not_eq_true'] at hs2
      have hdg : d ≠ g := fun e => by subst e; simp at hs2
      have hld : look L d = none := by
        cases hl : look L d with
        | none => rfl
        | some v => have h0 := hcl.1; simp only [hl] at h0; exact absurd h0 (by simp)
      refine ih (d :: U) (a.put (some d) undef) (H.put_clean undef hld) ?_ ?_ hs2.2 hcl.2 ?_
      · simp only [Act.put]
        rw [Array.getElem?_setIfInBounds_ne hdg]
        exact hgc
      · intro s hs hlt
        simp only [Act.put]
        by_cases e : d = s
        · subst e
          simp [H.size, hlt]
        · rw [Array.getElem?_setIfInBounds_ne e]
          rcases List.mem_cons.1 hs with h | h
          · exact absurd h.symm e
          · exact hU s h hlt
      · intro a' H' h'
        refine k a' H' fun s hs hlt => h' s ?_ hlt
        rcases hs with hs | hs
        · exact .inl (List.mem_cons_of_mem _ hs)
        · simp only [writes, Bool.or_eq_true] at hs
          rcases hs with hs | hs
          · have := Nat.eq_of_beq_eq_true hs
            subst this
            exact .inl (List.mem_cons_self ..)
          · exact .inr hs

theorem wpStill_mono {Q1 Q2 : Act → Prop} (h : ∀ a, Q1 a → Q2 a) : ∀ (l : List Oper) (a : Act), wpStill P ops w Q1 l a → wpStill P ops w Q2 l a := by
  intro l
  induction l with
  | nil => intro a h1; exact h a h1
  | cons o l ih =>
    intro a h1
    unfold wpStill at h1 ⊢
    split
    · rename_i hw; rw [if_pos hw] at h1; exact Oper.still_mono (fun a ha => ih a ha) h1
    · rename_i hw; rw [if_neg hw] at h1; exact ih _ h1

theorem wpStill_append {l2 : List Oper} : ∀ (l1 : List Oper) (a : Act), wpStill P ops w (wpStill P ops w Qs l2) l1 a → wpStill P ops w Qs (l1 ++ l2) a := by
  intro l1
  induction l1 with
  | nil => intro a h; exact h
  | cons o l1 ih =>
    intro a h
    simp only [List.cons_append]
    unfold wpStill at h ⊢
    split
    · rename_i hw; rw [if_pos hw] at h; exact Oper.still_mono (fun a ha => ih a ha) h
    · rename_i hw; rw [if_neg hw] at h; exact ih _ h

theorem still_guard {i g t : Nat} {b c : Bool} {v : Value} (m : Nat) (H : Fr N L a) (hg : (ops[i]?).bind (·.dst) = some g) (hc : look L g = some (.bool c))
    (hs : skips ops i g b [] (l.take m) = true) (hw : writes t (l.take m) = true) (hcl : clean L (l.take m) = true) (ht : Nat.blt t N.n = true)
    (h1 : c = b → wpStill P ops w (fun a' => Fr N ((t, v) :: L) a') (l.take m) a)
    (k : ∀ a', Fr N ((t, gv c b v) :: L) a' → wpStill P ops w Qs (l.drop m) a') : wpStill P ops w Qs l a := by
  have key : wpStill P ops w (wpStill P ops w Qs (l.drop m)) (l.take m) a := by
    by_cases e : c = b
    · refine wpStill_mono (fun a' ha' => k a' ?_) _ _ (h1 e)
      simpa [gv, e] using ha'
    · refine still_skip hg e (l.take m) [] a H (H.at_ _ _ hc) (by simp) hs hcl fun a' H' h' => k a' ?_
      have hlt : t < N.n := by simpa using ht
      have := h' t (.inr hw) hlt
      refine ⟨H'.size, H'.defs, fun s u hu => ?_⟩
      simp only [look] at hu
      cases hb : Nat.beq t s
      · rw [hb] at hu; exact H'.at_ s u hu
      · rw [hb] at hu
        have := Nat.eq_of_beq_eq_true hb
        subst this
        simp only [cond_true, Option.some.injEq] at hu
        subst hu
        have e' : (c == b) = false := by simpa using e
        simpa [gv, e'] using this
  have := wpStill_append (P := P) (ops := ops) (w := w) (Qs := Qs) (l2 := l.drop m) (l.take m) a key
  rwa [List.take_append_drop] at this

theorem does_or {d : Option Nat} {g : Option (Nat × Bool)} {c x y : Operand} {b r : Bool} (hc : ev L c = some (.bool b)) (hx : ev L x = some (.bool true)) (hy : ev L y = some (gv b false (.bool r))) :
    Does P L ⟨d, .pick c x y, ty, pos, af, g⟩ w (.bool (b || r)) := fun ρ hρ => by
  simp only [execOp, hρ _ _ hc, hρ _ _ hx, hρ _ _ hy]
  cases b <;> simp [asBool, gv]
theorem does_and {d : Option Nat} {g : Option (Nat × Bool)} {c x y : Operand} {b r : Bool} (hc : ev L c = some (.bool b)) (hx : ev L x = some (gv b true (.bool r))) (hy : ev L y = some (.bool false)) :
    Does P L ⟨d, .pick c x y, ty, pos, af, g⟩ w (.bool (b && r)) := fun ρ hρ => by
  simp only [execOp, hρ _ _ hc, hρ _ _ hx, hρ _ _ hy]
  cases b <;> simp [asBool, gv]

/-- The last bindings forgotten, but for one slot's. -/
def cleanK : Nat → List (Nat × Value) → Bool
  | 0, _ => true
  | _ + 1, [] => true
  | k + 1, (t, _) :: L => (match look (L.drop k) t with | none => true | some _ => false) && cleanK k L

theorem look_strip : ∀ (k : Nat) (X : List (Nat × Value)), cleanK k X = true → ∀ t v, look (X.drop k) t = some v → look X t = some v := by
  intro k
  induction k with
  | zero => intro X _ t v h; simpa using h
  | succ k ih =>
    intro X hc t v h
    cases X with
    | nil => simpa using h
    | cons p X =>
      obtain ⟨s, u⟩ := p
      simp only [cleanK, Bool.and_eq_true] at hc
      simp only [List.drop_succ_cons] at h
      simp only [look]
      cases hb : Nat.beq s t
      · exact ih X hc.2 t v h
      · have := Nat.eq_of_beq_eq_true hb
        subst this
        rw [h] at hc
        simp at hc

theorem Fr.strip {X : List (Nat × Value)} {t : Nat} {v : Value} (k : Nat) (H : Fr N X a) (ht : look X t = some v) (hc : cleanK k X = true) : Fr N ((t, v) :: X.drop k) a := by
  refine ⟨H.size, H.defs, fun s u hu => ?_⟩
  simp only [look] at hu
  cases hb : Nat.beq t s
  · rw [hb] at hu; exact H.at_ s u (look_strip k X hc s u hu)
  · rw [hb] at hu
    have := Nat.eq_of_beq_eq_true hb
    subst this
    simp only [cond_true, Option.some.injEq] at hu
    subst hu
    exact H.at_ _ _ ht

/-! ## statements -/
variable {y : Code} {id : Nat}

theorem seq_list (h : ∀ K : Act → World → Prop, (∀ a w, y.wp P Q a w → K a w) → wpList P l.toArray (Exit.then K Q) l a w) : (Code.seq (.region id l.toArray false) y).wp P Q a w :=
  wp_seq_k fun K hK => wp_region_lit (h K hK)
theorem seq_still (h : ∀ K : Act → Prop, (∀ a, y.wp P Q a w → K a) → wpStill P l.toArray w K l a) : (Code.seq (.region id l.toArray false) y).wp P Q a w := by
  refine wp_seq (wp_region_lit ?_)
  have := h (fun a => y.wp P Q a w) (fun _ h => h)
  have h2 := list_of_still (P := P) (ops := l.toArray) (w := w) (Q := Exit.then (y.wp P Q) Q) l [] a (wpStill_mono (fun a ha => ha) _ _ this)
  simpa using h2
theorem seq_stillD (hm : P.follows .mixedOrders = true) (hB : Region.lexB .any l.toArray = true) (h : ∀ K : Act → Prop, (∀ a, y.wp P Q a w.drew → K a) → wpStill P l.toArray w.drew K l a) :
    (Code.seq (.region id l.toArray true) y).wp P Q a w :=
  wp_seq (wp_region_still_lit hm hB (h _ (fun _ h => h)))
theorem seq_tail (n : Nat) (hm : P.follows .mixedOrders = true) (hB : Region.lexTailB .any l.toArray n = true)
    (h : ∀ K : Act → World → Prop, (∀ a w, y.wp P Q a w → K a w) → wpStill P l.toArray w.drew (fun a' => wpList P l.toArray (Exit.then K Q) (l.drop n) a' w.drew) (l.take n) a) :
    (Code.seq (.region id l.toArray true) y).wp P Q a w :=
  wp_seq_k fun K hK => wp_region_still_tail n hm hB (h K hK)
theorem seq_quiet (hm : P.follows .mixedOrders = true) (hB : Region.lexB .any l.toArray = true)
    (h : ∀ K : Act → Prop, (∀ a, (∀ w', (∃ n, w' = w.drewN n) → y.wp P Q a w') → K a) → wpQuiet P l.toArray (fun w' => ∃ n, w' = w.drewN n) K l a) :
    (Code.seq (.region id l.toArray true) y).wp P Q a w :=
  wp_seq (wp_region_quiet_lit hm hB (h _ (fun _ h => h)))
theorem one_list (h : wpList P l.toArray Q l a w) : (Code.region id l.toArray false).wp P Q a w := wp_region_lit h
theorem one_still (h : wpStill P l.toArray w (fun a => Q .normal a w) l a) : (Code.region id l.toArray false).wp P Q a w := by
  refine wp_region_lit ?_
  have h2 := list_of_still (P := P) (ops := l.toArray) (w := w) (Q := Q) l [] a (wpStill_mono (fun a ha => ha) _ _ h)
  simpa using h2
theorem one_stillD (hm : P.follows .mixedOrders = true) (hB : Region.lexB .any l.toArray = true) (h : wpStill P l.toArray w.drew (fun a => Q .normal a w.drew) l a) :
    (Code.region id l.toArray true).wp P Q a w := wp_region_still_lit hm hB h
theorem one_tail (n : Nat) (hm : P.follows .mixedOrders = true) (hB : Region.lexTailB .any l.toArray n = true)
    (h : wpStill P l.toArray w.drew (fun a' => wpList P l.toArray Q (l.drop n) a' w.drew) (l.take n) a) : (Code.region id l.toArray true).wp P Q a w :=
  wp_region_still_tail n hm hB h

theorem cond_ {t : Nat} {x : Code} {b : Bool} (H : Fr N L a) (hc : look L t = some (.bool b)) (h1 : b = true → x.wp P Q a w) (h2 : b = false → y.wp P Q a w) : (Code.cond (.tmp t) x y).wp P Q a w :=
  wp_cond_split (H.eval (x := .tmp t) hc) h1 h2

/-- Several ways that meet. -/
theorem seq_meet {x : Code} (M : Act → World → Prop) (h1 : ∀ K : Act → World → Prop, (∀ a w, M a w → K a w) → x.wp P (Exit.then K Q) a w) (h2 : ∀ a w, M a w → y.wp P Q a w) : (Code.seq x y).wp P Q a w :=
  wp_seq_k fun K hK => h1 K fun a w h => hK a w (h2 a w h)

theorem loop_ {c : Code} (I : Nat → Act → World → Prop) (n₀ : Nat) (h₀ : I n₀ a w)
    (round : ∀ n a w, I n a w → ∀ K : Act → World → Prop, (∀ n' a' w', n' < n → I n' a' w' → K a' w') → c.wp P (Exit.then K Q) a w) : (Code.loop c).wp P Q a w :=
  wp_loop_ghost I n₀ h₀ fun n a w hI => round n a w hI _ fun n' _ _ hlt h => ⟨n', hlt, h⟩

/-! ## returns -/
theorem ret1 {fn : Func} {R : Value → World → Prop} {t : Nat} {v : Value} (hr : fn.results = #[.tmp t]) {q_ : Nat} (H : Fr ⟨q_, []⟩ L a) (hv : look L t = some v) (h : R v w) : bodyPost P fn (Ret R) .ret a w :=
  bodyPost_ret (v := v) (by rw [results_tmp hr]; simp [H.at_ _ _ hv]) H.defs h
theorem ret2 {fn : Func} {R : Value → World → Prop} {t u : Nat} {v v' : Value} (hr : fn.results = #[.tmp t, .tmp u]) {q_ : Nat} (H : Fr ⟨q_, []⟩ L a) (hv : look L t = some v) (hv' : look L u = some v') (h : R (.tuple #[v, v']) w) : bodyPost P fn (Ret R) .ret a w :=
  bodyPost_ret (v := .tuple #[v, v']) (by rw [results_tmp2 hr]; simp [H.at_ _ _ hv, H.at_ _ _ hv']) H.defs h
theorem ret3 {fn : Func} {R : Value → World → Prop} {t u s : Nat} {v v' v'' : Value} (hr : fn.results = #[.tmp t, .tmp u, .tmp s]) {q_ : Nat} (H : Fr ⟨q_, []⟩ L a) (hv : look L t = some v) (hv' : look L u = some v') (hv'' : look L s = some v'') (h : R (.tuple #[v, v', v'']) w) : bodyPost P fn (Ret R) .ret a w :=
  bodyPost_ret (v := .tuple #[v, v', v'']) (by simp [results, hr, H.at_ _ _ hv, H.at_ _ _ hv', H.at_ _ _ hv'']) H.defs h
theorem ret4 {fn : Func} {R : Value → World → Prop} {t u s q : Nat} {v v' v'' v3 : Value} (hr : fn.results = #[.tmp t, .tmp u, .tmp s, .tmp q]) {q_ : Nat} (H : Fr ⟨q_, []⟩ L a) (hv : look L t = some v) (hv' : look L u = some v') (hv'' : look L s = some v'') (hv3 : look L q = some v3) (h : R (.tuple #[v, v', v'', v3]) w) : bodyPost P fn (Ret R) .ret a w :=
  bodyPost_ret (v := .tuple #[v, v', v'', v3]) (by simp [results, hr, H.at_ _ _ hv, H.at_ _ _ hv', H.at_ _ _ hv'', H.at_ _ _ hv3]) H.defs h
theorem ret0 {fn : Func} {R : Value → World → Prop} (hr : fn.results = #[]) {q_ : Nat} (H : Fr ⟨q_, []⟩ L a) (h : R (.tuple #[]) w) : bodyPost P fn (Ret R) .ret a w :=
  bodyPost_ret (v := .tuple #[]) (by simp [results, hr]) H.defs h
/-- A struct's result lies in a cell's place. -/
theorem retA {fn : Func} {R : Value → World → Prop} {t ty b o : Nat} {vs : List Value} (hr : fn.results = #[.cell t ty]) {q_ : Nat} (H : Fr ⟨q_, []⟩ L a) (ht : look L t = some (.pointer (some ⟨b, o, none⟩)))
    (hA : Agg P ty) (hs : Sz P ty vs.length) (hc : ∀ (j : Nat) v, vs[j]? = some v → w.cell? ⟨b, o + j, none⟩ = some v) (h : R (.agg vs.toArray) w) : bodyPost P fn (Ret R) .ret a w := by
  have hl := run_loadAgg (P := P) hA hs hc
  simp only [Instr.loadAt, Instr.sureAddr] at hl
  refine bodyPost_ret (v := .agg vs.toArray) ?_ H.defs h
  simp [results, hr, H.at_ _ _ ht, asAddr]
  simpa using hl
theorem retA1 {fn : Func} {R : Value → World → Prop} {t ty b o u : Nat} {vs : List Value} {v : Value} (hr : fn.results = #[.cell t ty, .tmp u]) {q_ : Nat} (H : Fr ⟨q_, []⟩ L a) (ht : look L t = some (.pointer (some ⟨b, o, none⟩)))
    (hA : Agg P ty) (hs : Sz P ty vs.length) (hc : ∀ (j : Nat) v, vs[j]? = some v → w.cell? ⟨b, o + j, none⟩ = some v) (hu : look L u = some v) (h : R (.tuple #[.agg vs.toArray, v]) w) : bodyPost P fn (Ret R) .ret a w := by
  have hl := run_loadAgg (P := P) hA hs hc
  simp only [Instr.loadAt, Instr.sureAddr] at hl
  refine bodyPost_ret (v := .tuple #[.agg vs.toArray, v]) ?_ H.defs h
  have hl' : (loadVar ty ⟨b, o, none⟩).run P w = .ok (.agg vs.toArray) w := by simpa using hl
  simp [results, hr, H.at_ _ _ ht, H.at_ _ _ hu, asAddr, hl']

/-! ## calls -/
theorem list_call {d f : Nat} {fn : Func} {xs : Array Operand} {ats : Array TypeId} {vs : List Value} {R : Value → World → Prop} (H : Fr N L a) (hd : Nat.blt d N.n = true) (hxs : evs L xs.toList = some vs)
    (hf : P.funcs[f]? = some fn) (hb : fn.body.isNone = false) (hn : (fn.name == "runtime.NumGoroutine") = false)
    (hc : Calls P f vs.toArray w (Ret R)) (k : ∀ v w' a', R v w' → Fr N ((d, v) :: L) a' → wpList P ops Q rest a' w') :
    wpList P ops Q (⟨some d, .call ⟨.value (.func f), xs, ats⟩, ty, pos, af, none⟩ :: rest) a w := by
  refine wpList_plain rfl fun K hK => ?_
  have e1 : xs.map a.eval = vs.toArray := by rw [← H.evals hxs, ← Array.toList_map, Array.toArray_toList]
  have hrun : (execOp a.eval ⟨some d, .call ⟨.value (.func f), xs, ats⟩, ty, pos, af, none⟩).run P w = .ok (.enter f vs.toArray) w := by
    have hb' : fn.body ≠ none := by intro e; rw [e] at hb; simp at hb
    have hn' : ¬ fn.name = "runtime.NumGoroutine" := by simpa using hn
    simp [execOp, resolve, Act.eval, Deferred.ofValue, e1, invoke, callFunc, hf, hn', hb']
  unfold Oper.wp
  rw [hrun]
  refine hc.mono fun e w' he => ?_
  cases e with
  | returned v => exact hK _ _ (k v w' _ he (H.put v hd))
  | panicked _ => exact he.elim
  | outgrown => exact he.elim

/-- A call of a function value. -/
theorem list_callv {d f t : Nat} {fn : Func} {xs : Array Operand} {ats : Array TypeId} {vs fs cs : List Value} {R : Value → World → Prop} (H : Fr N L a) (hd : Nat.blt d N.n = true) (hxs : evs L xs.toList = some vs)
    (ht : look L t = some (.func (.func f) fs.toArray cs.toArray)) (hf : P.funcs[f]? = some fn) (hb : fn.body.isNone = false) (hn : (fn.name == "runtime.NumGoroutine") = false)
    (hc : Calls P f (fs ++ vs ++ cs).toArray w (Ret R)) (k : ∀ v w' a', R v w' → Fr N ((d, v) :: L) a' → wpList P ops Q rest a' w') :
    wpList P ops Q (⟨some d, .call ⟨.value (.tmp t), xs, ats⟩, ty, pos, af, none⟩ :: rest) a w := by
  refine wpList_plain rfl fun K hK => ?_
  have e1 : xs.map a.eval = vs.toArray := by rw [← H.evals hxs, ← Array.toList_map, Array.toArray_toList]
  have hrun : (execOp a.eval ⟨some d, .call ⟨.value (.tmp t), xs, ats⟩, ty, pos, af, none⟩).run P w = .ok (.enter f (fs ++ vs ++ cs).toArray) w := by
    have hb' : fn.body ≠ none := by intro e; rw [e] at hb; simp at hb
    have hn' : ¬ fn.name = "runtime.NumGoroutine" := by simpa using hn
    have e2 : a.eval (.tmp t) = .func (.func f) fs.toArray cs.toArray := H.eval (x := .tmp t) ht
    simp [execOp, resolve, e2, Deferred.ofValue, e1, invoke, callFunc, hf, hn', hb']
  unfold Oper.wp
  rw [hrun]
  refine hc.mono fun e w' he => ?_
  cases e with
  | returned v => exact hK _ _ (k v w' _ he (H.put v hd))
  | panicked _ => exact he.elim
  | outgrown => exact he.elim

/-- A call inside a stretch that only reads: it must leave the world as it is. -/
theorem still_call {d f : Nat} {fn : Func} {xs : Array Operand} {ats : Array TypeId} {vs : List Value} {v : Value} (H : Fr N L a) (hd : Nat.blt d N.n = true) (hxs : evs L xs.toList = some vs)
    (hf : P.funcs[f]? = some fn) (hb : fn.body.isNone = false) (hn : (fn.name == "runtime.NumGoroutine") = false)
    (hc : Calls P f vs.toArray w (Ret fun u w' => u = v ∧ w' = w)) (k : ∀ a', Fr N ((d, v) :: L) a' → wpStill P ops w Qs rest a') :
    wpStill P ops w Qs (⟨some d, .call ⟨.value (.func f), xs, ats⟩, ty, pos, af, none⟩ :: rest) a := by
  refine wpStill_step fun K hK => ?_
  simp only [Region.wanted, if_true]
  have e1 : xs.map a.eval = vs.toArray := by rw [← H.evals hxs, ← Array.toList_map, Array.toArray_toList]
  have hrun : (execOp a.eval ⟨some d, .call ⟨.value (.func f), xs, ats⟩, ty, pos, af, none⟩).run P w = .ok (.enter f vs.toArray) w := by
    have hb' : fn.body ≠ none := by intro e; rw [e] at hb; simp at hb
    have hn' : ¬ fn.name = "runtime.NumGoroutine" := by simpa using hn
    simp [execOp, resolve, Act.eval, Deferred.ofValue, e1, invoke, callFunc, hf, hn', hb']
  unfold Oper.still
  rw [hrun]
  refine ⟨rfl, v, hc.mono fun e w' he => ?_, hK _ (k _ (H.put v hd))⟩
  cases e with
  | returned u => obtain ⟨rfl, rfl⟩ := he; exact ⟨rfl, rfl⟩
  | panicked _ => exact he.elim
  | outgrown => exact he.elim
end
end Go.Proofs.Ytlmddkekeoebcaa
