/- Maps: a list of keys and values, in the order in which they came. Flows in nets, in plain words: what is left across each set of nodes; levels; what a push does. A range over a function: the loop's record and the rounds, with memory as a list of parts. A bit that is set by an 'or'. -/
import Derived.Test.YtopmadlgolnmfaaE2
import Derived.RangeFuncRecord
import Derived.RangeFuncLeaves
import Derived.RangeFuncSeq
import Derived.OrdersIn
import Derived.TacticsIn
import Derived.Test.YtopmadlgolnmfaaE1
namespace Go.Proofs.Ytopmadlgolnmfaa
set_option linter.unusedVariables false
set_option linter.unusedSimpArgs false
open Go.RowKit

def findL {κ : Type} [DecidableEq κ] (k : κ) : List (κ × Value) → Nat → Option (Nat × Value)
  | [], _ => none
  | p :: l, i => if k = p.1 then some (i, p.2) else findL k l (i + 1)
def getL {κ : Type} [DecidableEq κ] (l : List (κ × Value)) (k : κ) : Option Value := (findL k l 0).map (·.2)
def setL {κ : Type} [DecidableEq κ] (l : List (κ × Value)) (k : κ) (v : Value) : List (κ × Value) := match findL k l 0 with
  | some (i, _) => l.modify i fun p => (p.1, v)
  | none => l ++ [(k, v)]
theorem findL_shift {κ : Type} [DecidableEq κ] (k : κ) : ∀ (l : List (κ × Value)) (i : Nat), findL k l i = (findL k l 0).map (fun q => (q.1 + i, q.2)) := by
  intro l
  induction l with
  | nil => intro i; rfl
  | cons p l ih =>
    intro i
    simp only [findL]
    by_cases h : k = p.1
    · rw [if_pos h, if_pos h]; simp
    · rw [if_neg h, if_neg h, ih (i + 1), ih 1, Option.map_map]
      congr 1
      funext q
      simp only [Function.comp, Prod.mk.injEq, and_true]
      omega
theorem getL_cons {κ : Type} [DecidableEq κ] (k : κ) (p : κ × Value) (l : List (κ × Value)) : getL (p :: l) k = if k = p.1 then some p.2 else getL l k := by
  unfold getL
  simp only [findL]
  by_cases h : k = p.1
  · rw [if_pos h, if_pos h]; rfl
  · rw [if_neg h, if_neg h, findL_shift, Option.map_map]; rfl
theorem setL_cons {κ : Type} [DecidableEq κ] (k : κ) (v : Value) (p : κ × Value) (l : List (κ × Value)) : setL (p :: l) k v = if k = p.1 then (p.1, v) :: l else p :: setL l k v := by
  unfold setL
  simp only [findL]
  by_cases h : k = p.1
  · rw [if_pos h, if_pos h]; rfl
  · rw [if_neg h, if_neg h, findL_shift]
    cases hf : findL k l 0 with
    | none => rfl
    | some q => obtain ⟨i, u⟩ := q; rfl
theorem getL_set {κ : Type} [DecidableEq κ] (v : Value) (k k' : κ) : ∀ (l : List (κ × Value)), getL (setL l k v) k' = if k' = k then some v else getL l k' := by
  intro l
  induction l with
  | nil =>
    show getL [(k, v)] k' = _
    rw [getL_cons]
  | cons p l ih =>
    rw [setL_cons]
    by_cases h : k = p.1
    · rw [if_pos h, getL_cons, getL_cons]
      dsimp only
      rw [← h]
      by_cases h2 : k' = k
      · rw [if_pos h2, if_pos h2]
      · rw [if_neg h2, if_neg h2, if_neg h2]
    · rw [if_neg h, getL_cons, getL_cons, ih]
      by_cases h2 : k' = p.1
      · rw [if_pos h2, if_pos h2, if_neg (fun e => h (by rw [← e, h2]))]
      · rw [if_neg h2, if_neg h2]

/-- How keys of a kind are found. -/
structure KeyOk {κ : Type} [DecidableEq κ] (P : Program) (kt : TypeId) (enc : κ → Value) : Prop where
  find : ∀ (l : List (κ × Value)) (k : κ) (es : List MapEntry) (w : World), es.map (fun e => (e.key, e.val)) = l.map (fun p => (enc p.1, p.2)) → (Instr.findKey kt (enc k) es).run P w = .ok (findL k l 0) w
  check : ∀ (e : Bool) (k : κ) (w : World), (Instr.checkKey e 10000 kt (enc k)).run P w = .ok () w
  bits : ∀ k : κ, Instr.sameBits 10000 (enc k) (enc k) = true

theorem keyOk_int {P : Program} {kt : TypeId} (h : P.underlying kt = some (.int .i64)) : KeyOk P kt (fun n : Int => .int .i64 n) := by
  refine ⟨fun l k es w he => ?_, fun e k w => ?_, fun k => by simp [Instr.sameBits]⟩
  · have key : ∀ (l : List (Int × Value)) (es : List MapEntry) (i : Nat), es.map (fun e => (e.key, e.val)) = l.map (fun p => (Value.int .i64 p.1, p.2)) → Instr.findNow (.int .i64) (.int .i64 k) es i = some (findL k l i) := by
      intro l
      induction l with
      | nil => intro es i he; have : es = [] := by simpa using he
               subst this; rfl
      | cons p l ih =>
        intro es i he
        cases es with
        | nil => simp at he
        | cons e es =>
          simp only [List.map_cons, List.cons.injEq, Prod.mk.injEq] at he
          obtain ⟨⟨h1, h2⟩, h3⟩ := he
          simp only [Instr.findNow, h1, Instr.sameNow, if_true, findL]
          by_cases hk : k = p.1
          · subst hk; simp [h2]
          · have hb : (k == p.1) = false := by simp [hk]
            rw [hb, if_neg hk]
            exact ih es (i + 1) h3
    simp [Instr.findKey, run_und h, key l es 0 he]
  · rw [show (10000 : Nat) = 9999 + 1 from rfl, Instr.checkKey]
    simp only [Sem.run_bind, run_und h, Result.andThen_ok]
    rfl

def mapM {κ : Type} (enc : κ → Value) (b : Nat) (l : List (κ × Value)) : Mem where
  fp := fun k => k = b
  holds := fun w => ∃ (es : Array MapEntry) (ck : Nat), w.heap[b]? = some (.map es ck) ∧ es.toList.map (fun e => (e.key, e.val)) = l.map (fun p => (enc p.1, p.2))
  stable := fun _ _ h ⟨es, ck, h1, h2⟩ => ⟨es, ck, (h b rfl).trans h1, h2⟩

section
variable {P : Program} {ops : Array Oper} {w w0 : World} {F0 : Nat → Prop} {R : List Mem} {Q : Exit → Act → World → Prop} {rest : List Oper} {N : FN} {L : List (Nat × Value)} {a : Act} {ty : TypeId} {pos : String} {af : Array Edge}
variable {κ : Type}
theorem list_makeMap {d t : Nat} (enc : κ → Value) (H : Fr N L a) (hd : Nat.blt d N.n = true) (S : St w0 F0 R w)
    (k : ∀ b w' a', w0.heap.size ≤ b → St w0 F0 (mapM enc b [] :: R) w' → Fr N ((d, .map (some b)) :: L) a' → wpList P ops Q rest a' w') :
    wpList P ops Q (⟨some d, .makeMap t none, ty, pos, af, none⟩ :: rest) a w := by
  refine wpList_plain rfl fun K hK => ?_
  unfold Oper.wp
  have e : (execOp a.eval ⟨some d, .makeMap t none, ty, pos, af, none⟩).run P w = .ok (.value (.map (some w.heap.size))) (w.alloc (.map #[] 0)) := by
    simp [execOp, Instr.makeMap, newObj, Sem.run]
  rw [e]
  refine hK _ _ (k w.heap.size _ _ S.size (S.new (Keeps.alloc w _ _) ⟨#[], 0, heap_alloc_new w _, rfl⟩ ?_) (H.put _ hd))
  intro q hq
  rw [show q = w.heap.size from hq]
  simp

theorem modify_map (f : MapEntry → MapEntry) (g : κ × Value → κ × Value) (e1 : MapEntry → Value × Value) (e2 : κ × Value → Value × Value) : ∀ (es : List MapEntry) (l : List (κ × Value)) (i : Nat), es.map e1 = l.map e2 → (∀ e p, e1 e = e2 p → es[i]? = some e → l[i]? = some p → e1 (f e) = e2 (g p)) → (es.modify i f).map e1 = (l.modify i g).map e2 := by
  intro es
  induction es with
  | nil => intro l i h _; cases l with
           | nil => simp
           | cons _ _ => simp at h
  | cons e es ih =>
    intro l i h hf
    cases l with
    | nil => simp at h
    | cons p l =>
      simp only [List.map_cons, List.cons.injEq] at h
      cases i with
      | zero => simp only [List.modify_zero_cons, List.map_cons, h.2, hf e p h.1 rfl rfl]
      | succ i => simp only [List.modify_succ_cons, List.map_cons, h.1, ih l i h.2 (fun e p h1 h2 h3 => hf e p h1 (by simpa using h2) (by simpa using h3))]
end
def MapT (P : Program) (t k e : TypeId) : Prop := P.underlying t = some (.map k e)
def ZeroV (P : Program) (t : Nat) (z : Value) : Prop := (P.info? t).map (·.zero) = some (some z)
section
variable {P : Program} {ops : Array Oper} {w w0 : World} {F0 : Nat → Prop} {R : List Mem} {Q : Exit → Act → World → Prop} {rest : List Oper} {N : FN} {L : List (Nat × Value)} {a : Act} {ty : TypeId} {pos : String} {af : Array Edge}
variable {κ : Type} [DecidableEq κ] {enc : κ → Value} {l : List (κ × Value)}

theorem run_zeroV {t : Nat} {z : Value} (h : ZeroV P t z) : (zeroValue t).run P w = .ok z w := by
  unfold ZeroV at h
  cases hi : P.info? t with
  | none => rw [hi] at h; simp at h
  | some i => rw [hi] at h; simp at h; simp [zeroValue, typeInfo, hi, h]

theorem run_lookup {t kt et b : Nat} {z : Value} {k : κ} (ht : MapT P t kt et) (hk : KeyOk P kt enc) (hz : ZeroV P et z) (h : (mapM enc b l).holds w) (ok : Bool) :
    (Instr.lookup t (.map (some b)) (enc k) ok).run P w = .ok (if ok then .tuple #[(getL l k).getD z, .bool (getL l k).isSome] else (getL l k).getD z) w := by
  obtain ⟨es, ck, hb, he⟩ := h
  have hf := hk.find l k es.toList w he
  have hg : (getObj b).run P w = .ok (.map es ck) w := by simp [getObj, Sem.run, hb]
  unfold MapT at ht
  simp only [Instr.lookup, Sem.run_bind, run_und ht, Result.andThen_ok, hg, Sem.run_pure, hk.check, hf]
  unfold getL
  cases hfl : findL k l 0 with
  | none => cases ok <;> simp [run_zeroV hz]
  | some q => obtain ⟨i, v⟩ := q; cases ok <;> simp

theorem does_lookup {x y : Operand} {t kt et b i : Nat} {d : Option Nat} {g : Option (Nat × Bool)} {z : Value} {k : κ} (S : St w0 F0 R w) (hi : R[i]? = some (mapM enc b l)) (ht : MapT P t kt et) (hk : KeyOk P kt enc) (hz : ZeroV P et z) (hx : ev L x = some (.map (some b))) (hy : ev L y = some (enc k)) :
    Does P L ⟨d, .lookup t x y false, ty, pos, af, g⟩ w ((getL l k).getD z) := fun ρ hρ => by
  have := run_lookup (k := k) ht hk hz (S.holds hi) false
  simp [execOp, hρ _ _ hx, hρ _ _ hy, this]
theorem findL_at {k : κ} : ∀ {l : List (κ × Value)} {i : Nat} {v : Value}, findL k l 0 = some (i, v) → l[i]? = some (k, v) := by
  intro l
  induction l with
  | nil => intro i v h; cases h
  | cons p l ih =>
    intro i v h
    simp only [findL] at h
    by_cases hk : k = p.1
    · rw [if_pos hk] at h
      injection h with h
      injection h with h1 h2
      subst h1; subst h2; subst hk
      rfl
    · rw [if_neg hk, findL_shift] at h
      cases hf : findL k l 0 with
      | none => rw [hf] at h; cases h
      | some q =>
        rw [hf] at h
        injection h with h
        injection h with h1 h2
        subst h1; subst h2
        have := ih (i := q.1) (v := q.2) (by rw [hf])
        simpa using this

theorem list_mapUpdate {x y u : Operand} {t kt et b i : Nat} {k : κ} {v : Value} (H : Fr N L a) (S : St w0 F0 R w) (hi : R[i]? = some (mapM enc b l)) (ht : MapT P t kt et) (hk : KeyOk P kt enc) (hx : ev L x = some (.map (some b))) (hy : ev L y = some (enc k)) (hu : ev L u = some v)
    (kk : ∀ w' a', St w0 F0 (R.set i (mapM enc b (setL l k v))) w' → Fr N L a' → wpList P ops Q rest a' w') :
    wpList P ops Q (⟨none, .mapUpdate t x y u, ty, pos, af, none⟩ :: rest) a w := by
  refine wpList_plain rfl fun K hK => ?_
  obtain ⟨es, ck, hb, he⟩ := S.holds hi
  have hf := hk.find l k es.toList w he
  have hg : (getObj b).run P w = .ok (.map es ck) w := by simp [getObj, Sem.run, hb]
  have hs : ∀ o, (setObj b o).run P w = .ok () (w.putObj b o) := fun o => by simp [setObj, Sem.run, hb, World.putObj]
  have hkeeps : ∀ o, Keeps w (w.putObj b o) (fun k => k = b) := fun o => ⟨rfl, rfl, rfl, by simp [World.putObj], fun q _ hq => World.putObj_heap_other (fun e => hq e)⟩
  unfold MapT at ht
  unfold Oper.wp
  cases hfl : findL k l 0 with
  | none =>
    rw [hfl] at hf
    have e1 : (execOp a.eval ⟨none, .mapUpdate t x y u, ty, pos, af, none⟩).run P w = .ok .skip (w.putObj b (.map (es.push { key := enc k, val := v, born := ck }) (ck + 1))) := by
      simp [execOp, H.eval hx, H.eval hy, H.eval hu, Instr.mapUpdate, run_und ht, hg, hk.check, hf, hs]
    rw [e1]
    refine hK _ _ (kk _ _ (S.updSame hi (hkeeps _) ⟨_, _, World.putObj_heap_same (lt_of_heap hb), ?_⟩ (fun _ h => h)) (H.put_none _))
    unfold setL
    rw [hfl]
    simp [he]
  | some q =>
    obtain ⟨j, v0⟩ := q
    rw [hfl] at hf
    have hat := findL_at hfl
    have hej : (es[j]?).map (·.key) = some (enc k) := by
      have h1 : (es.toList.map (fun e => (e.key, e.val)))[j]? = (l.map (fun p => (enc p.1, p.2)))[j]? := by rw [he]
      rw [List.getElem?_map, List.getElem?_map, hat, Array.getElem?_toList] at h1
      cases h2 : es[j]? with
      | none => rw [h2] at h1; simp at h1
      | some e => rw [h2] at h1; simp at h1; simp [h1.1]
    have hst : (Instr.keyThatStays (enc k) (enc k)).run P w = .ok (enc k) w := by simp [Instr.keyThatStays, hk.bits k]
    have e1 : (execOp a.eval ⟨none, .mapUpdate t x y u, ty, pos, af, none⟩).run P w = .ok .skip (w.putObj b (.map (es.modify j fun e => { e with key := enc k, val := v }) ck)) := by
      simp [execOp, H.eval hx, H.eval hy, H.eval hu, Instr.mapUpdate, run_und ht, hg, hk.check, hf, hs, hej, hst]
    rw [e1]
    refine hK _ _ (kk _ _ (S.updSame hi (hkeeps _) ⟨_, _, World.putObj_heap_same (lt_of_heap hb), ?_⟩ (fun _ h => h)) (H.put_none _))
    unfold setL
    rw [hfl]
    rw [Array.toList_modify]
    refine modify_map _ _ _ _ es.toList l j he fun e p h1 h2 h3 => ?_
    rw [hat] at h3
    injection h3 with h3
    subst h3
    rfl
end
end Go.Proofs.Ytopmadlgolnmfaa

namespace Go.Proofs.Ytopmadlgolnmfaa
set_option linter.unusedVariables false
set_option linter.unusedSimpArgs false

/-! ## sums -/
def sm (f : Nat → Int) : Nat → Int
  | 0 => 0
  | n + 1 => sm f n + f n
theorem sm_congr {f g : Nat → Int} : ∀ {n : Nat}, (∀ i, i < n → f i = g i) → sm f n = sm g n := by
  intro n
  induction n with
  | zero => intro _; rfl
  | succ n ih => intro h; rw [sm, sm, ih (fun i hi => h i (by omega)), h n (by omega)]
theorem sm_upd {f g : Nat → Int} {p : Nat} : ∀ {n : Nat}, p < n → (∀ i, i < n → i ≠ p → g i = f i) → sm g n = sm f n + (g p - f p) := by
  intro n
  induction n with
  | zero => intro h; omega
  | succ n ih =>
    intro hp h
    rw [sm, sm]
    by_cases e : p = n
    · subst e
      rw [sm_congr (f := g) (g := f) (fun i hi => h i (by omega) (by omega))]
      omega
    · rw [ih (by omega) (fun i hi hne => h i (by omega) hne), h n (by omega) (fun e' => e e'.symm)]
      omega
theorem sm_nonneg {f : Nat → Int} : ∀ {n : Nat}, (∀ i, i < n → 0 ≤ f i) → 0 ≤ sm f n := by
  intro n
  induction n with
  | zero => intro _; exact Int.le_refl _
  | succ n ih => intro h; have h1 := ih (fun i hi => h i (by omega)); have h2 := h n (by omega); rw [sm]; omega
theorem sm_le {f g : Nat → Int} : ∀ {n : Nat}, (∀ i, i < n → f i ≤ g i) → sm f n ≤ sm g n := by
  intro n
  induction n with
  | zero => intro _; exact Int.le_refl _
  | succ n ih => intro h; have h1 := ih (fun i hi => h i (by omega)); have h2 := h n (by omega); rw [sm, sm]; omega
theorem sm_zero {f : Nat → Int} {n : Nat} (h : ∀ i, i < n → f i = 0) : sm f n = 0 := by
  rw [sm_congr (g := fun _ => 0) h]
  induction n with
  | zero => rfl
  | succ n ih => rw [sm, ih (fun i hi => h i (by omega))]; rfl
theorem sm_add {f g : Nat → Int} : ∀ {n : Nat}, sm (fun i => f i + g i) n = sm f n + sm g n := by
  intro n
  induction n with
  | zero => rfl
  | succ n ih => rw [sm, sm, sm, ih]; omega
theorem sm_eq_zero {f : Nat → Int} : ∀ {n : Nat}, (∀ i, i < n → 0 ≤ f i) → sm f n = 0 → ∀ i, i < n → f i = 0 := by
  intro n
  induction n with
  | zero => intro _ _ i hi; omega
  | succ n ih =>
    intro h hs i hi
    rw [sm] at hs
    have h1 := sm_nonneg (n := n) (f := f) (fun i hi => h i (by omega))
    have h2 := h n (by omega)
    by_cases e : i = n
    · subst e; omega
    · exact ih (fun i hi => h i (by omega)) (by omega) i (by omega)
theorem sm_single {f : Nat → Int} {n p : Nat} (hp : p < n) (h : ∀ i, i < n → i ≠ p → f i = 0) : sm f n = f p := by
  have := sm_upd (f := fun _ => 0) (g := f) hp h
  rw [sm_zero (f := fun _ => 0) (fun _ _ => rfl)] at this
  omega
theorem sm_mem {f : Nat → Int} {n p : Nat} (h : ∀ i, i < n → 0 ≤ f i) (hp : p < n) : f p ≤ sm f n := by
  have h1 := sm_upd (f := fun i => if i = p then 0 else f i) (g := f) hp (fun i _ hne => by simp [hne])
  have h2 := sm_nonneg (f := fun i => if i = p then 0 else f i) (n := n) (fun i hi => by split; omega; exact h i hi)
  simp at h1
  omega

/-! ## nets -/
structure Net where
  k : Nat
  n : Nat → Nat
  to : Nat → Nat → Nat
  back : Nat → Nat → Nat

structure Net.Wf (N : Net) : Prop where
  to_lt : ∀ i, i < N.k → ∀ j, j < N.n i → N.to i j < N.k
  to_ne : ∀ i, i < N.k → ∀ j, j < N.n i → N.to i j ≠ i
  bk_lt : ∀ i, i < N.k → ∀ j, j < N.n i → N.back i j < N.n (N.to i j)
  bk_to : ∀ i, i < N.k → ∀ j, j < N.n i → N.to (N.to i j) (N.back i j) = i
  bk_bk : ∀ i, i < N.k → ∀ j, j < N.n i → N.back (N.to i j) (N.back i j) = j

abbrev RM := Nat → Nat → Int
/-- What is left from a set of nodes to the others. -/
def resid (N : Net) (r : RM) (S : Nat → Bool) : Int := sm (fun i => sm (fun j => if S i = true ∧ S (N.to i j) = false then r i j else 0) (N.n i)) N.k
def ind (S : Nat → Bool) (v : Nat) : Int := if S v = true then 1 else 0
def put2 (r : RM) (a b : Nat) (v : Int) : RM := fun i j => if i = a ∧ j = b then v else r i j
theorem put2_same {r : RM} {a b : Nat} {v : Int} : put2 r a b v a b = v := by unfold put2; exact if_pos ⟨rfl, rfl⟩
theorem put2_ne {r : RM} {a b i j : Nat} {v : Int} (h : ¬ (i = a ∧ j = b)) : put2 r a b v i j = r i j := if_neg h
theorem resid_put {N : Net} {r : RM} {S : Nat → Bool} {a b : Nat} {v : Int} (ha : a < N.k) (hb : b < N.n a) :
    resid N (put2 r a b v) S = resid N r S + (if S a = true ∧ S (N.to a b) = false then v - r a b else 0) := by
  unfold resid
  have h1 := sm_upd (f := fun i => sm (fun j => if S i = true ∧ S (N.to i j) = false then r i j else 0) (N.n i))
    (g := fun i => sm (fun j => if S i = true ∧ S (N.to i j) = false then put2 r a b v i j else 0) (N.n i)) ha
    (fun i hi hne => sm_congr fun j hj => by rw [put2_ne (fun h => hne h.1)])
  have h2 := sm_upd (f := fun j => if S a = true ∧ S (N.to a j) = false then r a j else 0) (g := fun j => if S a = true ∧ S (N.to a j) = false then put2 r a b v a j else 0) hb
    (fun j hj hne => by rw [put2_ne (fun h => hne h.2)])
  rw [h1, h2, put2_same]
  split <;> omega
/-- So many more go along an edge. -/
def along (N : Net) (r : RM) (a b : Nat) (m : Int) : RM := put2 (put2 r a b (r a b - m)) (N.to a b) (N.back a b) (r (N.to a b) (N.back a b) + m)
section
variable {N : Net} {r r1 r2 r' : RM} {a b : Nat} {m : Int}
theorem along_at (W : N.Wf) (ha : a < N.k) (hb : b < N.n a) : along N r a b m a b = r a b - m := by
  unfold along
  rw [put2_ne (fun h => W.to_ne a ha b hb h.1.symm), put2_same]
theorem along_bk : along N r a b m (N.to a b) (N.back a b) = r (N.to a b) (N.back a b) + m := put2_same
theorem along_ne {i j : Nat} (h1 : ¬ (i = a ∧ j = b)) (h2 : ¬ (i = N.to a b ∧ j = N.back a b)) : along N r a b m i j = r i j := by unfold along; rw [put2_ne h2, put2_ne h1]
theorem resid_along (W : N.Wf) (ha : a < N.k) (hb : b < N.n a) (S : Nat → Bool) : resid N (along N r a b m) S = resid N r S - m * (ind S a - ind S (N.to a b)) := by
  unfold along
  rw [resid_put (W.to_lt a ha b hb) (W.bk_lt a ha b hb), resid_put ha hb, put2_ne (fun h => W.to_ne a ha b hb h.1), W.bk_to a ha b hb]
  unfold ind
  cases h1 : S a <;> cases h2 : S (N.to a b) <;> simp <;> omega

structure Ok (N : Net) (r : RM) (B : Int) : Prop where
  nn : ∀ i, i < N.k → ∀ j, j < N.n i → 0 ≤ r i j
  pair : ∀ i, i < N.k → ∀ j, j < N.n i → r i j + r (N.to i j) (N.back i j) ≤ B
theorem Ok.le {B : Int} (W : N.Wf) (h : Ok N r B) {i j : Nat} (hi : i < N.k) (hj : j < N.n i) : r i j ≤ B := by
  have h1 := h.pair i hi j hj
  have h2 := h.nn _ (W.to_lt i hi j hj) _ (W.bk_lt i hi j hj)
  omega
theorem resid_nn {B : Int} {S : Nat → Bool} (h : Ok N r B) : 0 ≤ resid N r S := sm_nonneg fun i hi => sm_nonneg fun j hj => by
  split
  · exact h.nn i hi j hj
  · exact Int.le_refl _
/-- m more come from u to x. -/
structure Fl (N : Net) (r r' : RM) (u x : Nat) (m : Int) : Prop where
  cut : ∀ S, resid N r' S = resid N r S - m * (ind S u - ind S x)
  pair : ∀ i, i < N.k → ∀ j, j < N.n i → r' i j + r' (N.to i j) (N.back i j) = r i j + r (N.to i j) (N.back i j)
  nn : ∀ i, i < N.k → ∀ j, j < N.n i → 0 ≤ r' i j
theorem Fl.ok {B : Int} {u x : Nat} (h : Fl N r r' u x m) (o : Ok N r B) : Ok N r' B := ⟨h.nn, fun i hi j hj => by rw [h.pair i hi j hj]; exact o.pair i hi j hj⟩
theorem Fl.zero {B : Int} {u x : Nat} (o : Ok N r B) : Fl N r r u x 0 := ⟨fun S => by rw [Int.zero_mul]; omega, fun _ _ _ _ => rfl, o.nn⟩
theorem Fl.here {B : Int} {x : Nat} (o : Ok N r B) : Fl N r r x x m := ⟨fun S => by rw [Int.sub_self, Int.mul_zero]; omega, fun _ _ _ _ => rfl, o.nn⟩
theorem Fl.more {m' : Int} {u x : Nat} (h : Fl N r r1 u x m) (k : Fl N r1 r2 u x m') : Fl N r r2 u x (m + m') :=
  ⟨fun S => by rw [k.cut S, h.cut S, Int.add_mul]; omega, fun i hi j hj => (k.pair i hi j hj).trans (h.pair i hi j hj), k.nn⟩
/-- .. along an edge, and on. -/
theorem Fl.step (W : N.Wf) {x : Nat} (ha : a < N.k) (hb : b < N.n a) (h : Fl N r r1 (N.to a b) x m) (h0 : 0 ≤ m) (hm : m ≤ r1 a b) : Fl N r (along N r1 a b m) a x m := by
  refine ⟨fun S => ?_, fun i hi j hj => ?_, fun i hi j hj => ?_⟩
  · rw [resid_along W ha hb, h.cut S, Int.mul_sub, Int.mul_sub, Int.mul_sub]; omega
  · rw [← h.pair i hi j hj]
    by_cases h1 : i = a ∧ j = b
    · obtain ⟨rfl, rfl⟩ := h1
      rw [along_at W ha hb, along_bk]; omega
    · by_cases h2 : i = N.to a b ∧ j = N.back a b
      · obtain ⟨rfl, rfl⟩ := h2
        rw [W.bk_to a ha b hb, W.bk_bk a ha b hb, along_bk, along_at W ha hb]; omega
      · have e1 := along_ne (r := r1) (m := m) h1 h2
        rw [e1]
        congr 1
        refine along_ne ?_ ?_
        · rintro ⟨h3, h4⟩
          apply h2
          have := W.bk_to i hi j hj
          have h5 := W.bk_bk i hi j hj
          rw [h3, h4] at this h5
          exact ⟨this.symm, h5.symm⟩
        · rintro ⟨h3, h4⟩
          apply h1
          have := W.bk_to i hi j hj
          have h5 := W.bk_bk i hi j hj
          rw [h3, h4, W.bk_to a ha b hb] at this
          rw [h3, h4, W.bk_bk a ha b hb] at h5
          exact ⟨this.symm, h5.symm⟩
  · by_cases h1 : i = a ∧ j = b
    · obtain ⟨rfl, rfl⟩ := h1
      rw [along_at W ha hb]; omega
    · by_cases h2 : i = N.to a b ∧ j = N.back a b
      · obtain ⟨rfl, rfl⟩ := h2
        rw [along_bk]
        have := h.nn _ (W.to_lt a ha b hb) _ (W.bk_lt a ha b hb)
        omega
      · rw [along_ne h1 h2]; exact h.nn i hi j hj
end

/-! ## levels -/
def cnt (p : Nat → Bool) : Nat → Nat
  | 0 => 0
  | n + 1 => cnt p n + (if p n = true then 1 else 0)
theorem cnt_le {p : Nat → Bool} : ∀ n, cnt p n ≤ n := by
  intro n
  induction n with
  | zero => exact Nat.le_refl _
  | succ n ih => rw [cnt]; split <;> omega
theorem cnt_congr {p q : Nat → Bool} : ∀ {n : Nat}, (∀ i, i < n → p i = q i) → cnt p n = cnt q n := by
  intro n
  induction n with
  | zero => intro _; rfl
  | succ n ih => intro h; rw [cnt, cnt, ih (fun i hi => h i (by omega)), h n (by omega)]
theorem cnt_one {p q : Nat → Bool} {v : Nat} : ∀ {n : Nat}, v < n → p v = false → q v = true → (∀ i, i < n → i ≠ v → q i = p i) → cnt q n = cnt p n + 1 := by
  intro n
  induction n with
  | zero => intro h; omega
  | succ n ih =>
    intro hv hp hq h
    rw [cnt, cnt]
    by_cases e : v = n
    · subst e
      rw [cnt_congr (p := q) (q := p) (fun i hi => h i (by omega) (by omega)), hp, hq]
      simp
    · rw [ih (by omega) hp hq (fun i hi hne => h i (by omega) hne), h n (by omega) (fun e' => e e'.symm)]
      omega
theorem cnt_none {p : Nat → Bool} {n : Nat} (h : ∀ i, i < n → p i = false) : cnt p n = 0 := by
  induction n with
  | zero => rfl
  | succ n ih => rw [cnt, ih (fun i hi => h i (by omega)), h n (by omega)]; rfl

/-- How far each node lies behind the beginning, along edges with room. -/
structure LevOk (N : Net) (r : RM) (b : Nat) (L : Nat → Int) : Prop where
  b0 : L b = 0
  rng : ∀ v, v < N.k → -1 ≤ L v ∧ L v < N.k
  cl : ∀ u, u < N.k → 0 ≤ L u → ∀ j, j < N.n u → 0 < r u j → 0 ≤ L (N.to u j)
  pred : ∀ v, v < N.k → 0 ≤ L v → v = b ∨ ∃ u, u < N.k ∧ ∃ j, j < N.n u ∧ 0 ≤ L u ∧ 0 < r u j ∧ N.to u j = v ∧ L v = L u + 1

/-- The search for them under way: q: all that were found, h of them are done, and J edges of the next one. -/
structure Bfs (N : Net) (r : RM) (b : Nat) (L : Nat → Int) (q : Nat → Nat) (ql h J : Nat) : Prop where
  b0 : L b = 0
  low : ∀ v, v < N.k → -1 ≤ L v
  mem : ∀ i, i < ql → q i < N.k ∧ 0 ≤ L (q i) ∧ L (q i) ≤ i
  cover : ∀ v, v < N.k → 0 ≤ L v → ∃ i, i < ql ∧ q i = v
  cnt : cnt (fun v => decide (0 ≤ L v)) N.k = ql
  pred : ∀ v, v < N.k → 0 ≤ L v → v = b ∨ ∃ u, u < N.k ∧ ∃ j, j < N.n u ∧ 0 ≤ L u ∧ 0 < r u j ∧ N.to u j = v ∧ L v = L u + 1
  cl : ∀ i, i < h → ∀ j, j < N.n (q i) → 0 < r (q i) j → 0 ≤ L (N.to (q i) j)
  part : ∀ j, j < J → j < N.n (q h) → 0 < r (q h) j → 0 ≤ L (N.to (q h) j)
section
variable {N : Net} {r : RM} {b : Nat} {L : Nat → Int} {q : Nat → Nat} {ql h J : Nat}
theorem Bfs.le (B : Bfs N r b L q ql h J) : ql ≤ N.k := by rw [← B.cnt]; exact cnt_le _
theorem Bfs.start (hb : b < N.k) (hL : ∀ v, v < N.k → L v = if v = b then 0 else -1) (hq : q 0 = b) : Bfs N r b L q 1 0 0 := by
  have hLb : L b = 0 := by rw [hL b hb, if_pos rfl]
  refine ⟨hLb, fun v hv => ?_, fun i hi => ?_, fun v hv h0 => ?_, ?_, fun v hv h0 => ?_, fun i hi => absurd hi (by omega), fun j hj => absurd hj (by omega)⟩
  · rw [hL v hv]; split <;> omega
  · have : i = 0 := by omega
    subst this
    rw [hq]
    exact ⟨hb, by omega, by omega⟩
  · rw [hL v hv] at h0
    split at h0
    · rename_i e; exact ⟨0, by omega, by rw [hq, e]⟩
    · omega
  · have := cnt_one (p := fun _ => false) (q := fun v => decide (0 ≤ L v)) (v := b) (n := N.k) hb rfl (by simp [hLb]) (fun i hi hne => by simp [hL i hi, hne])
    rw [this, cnt_none (fun _ _ => rfl)]
  · rw [hL v hv] at h0
    split at h0
    · rename_i e; exact .inl e
    · omega
theorem Bfs.skip (B : Bfs N r b L q ql h J) (hs : ¬ (0 < r (q h) J ∧ L (N.to (q h) J) < 0)) : Bfs N r b L q ql h (J + 1) := by
  refine ⟨B.b0, B.low, B.mem, B.cover, B.cnt, B.pred, B.cl, fun j hj hn hr => ?_⟩
  by_cases e : j = J
  · subst e; omega
  · exact B.part j (by omega) hn hr
theorem Bfs.visit (W : N.Wf) (B : Bfs N r b L q ql h J) (hh : h < ql) (hJ : J < N.n (q h)) (hr : 0 < r (q h) J) (hv : L (N.to (q h) J) < 0) :
    Bfs N r b (upd L (N.to (q h) J) (L (q h) + 1)) (upd q ql (N.to (q h) J)) (ql + 1) h (J + 1) := by
  obtain ⟨hk, hL0, hLi⟩ := B.mem h hh
  have hvk := W.to_lt _ hk J hJ
  have hne : ∀ v, 0 ≤ L v → v ≠ N.to (q h) J := fun v h0 e => by subst e; omega
  have hqne : ∀ i, i < ql → upd q ql (N.to (q h) J) i = q i := fun i hi => upd_ne _ _ (by omega)
  have hge : ∀ v, 0 ≤ L v → 0 ≤ upd L (N.to (q h) J) (L (q h) + 1) v := fun v h0 => by rw [upd_ne _ _ (hne v h0)]; exact h0
  have hbk := hne b (by rw [B.b0]; omega)
  refine ⟨by rw [upd_ne _ _ hbk]; exact B.b0, fun v hv' => ?_, fun i hi => ?_, fun v hv' h0 => ?_, ?_, fun v hv' h0 => ?_, fun i hi j hj hr' => ?_, fun j hj hn hr' => ?_⟩
  · by_cases e : v = N.to (q h) J
    · subst e; rw [upd_same]; omega
    · rw [upd_ne _ _ e]; exact B.low v hv'
  · by_cases e : i = ql
    · subst e; rw [upd_same, upd_same]; exact ⟨hvk, by omega, by omega⟩
    · rw [hqne i (by omega)]
      obtain ⟨h1, h2, h3⟩ := B.mem i (by omega)
      rw [upd_ne _ _ (hne _ h2)]
      exact ⟨h1, h2, h3⟩
  · by_cases e : v = N.to (q h) J
    · subst e; exact ⟨ql, by omega, upd_same _ _ _⟩
    · rw [upd_ne _ _ e] at h0
      obtain ⟨i, hi, he⟩ := B.cover v hv' h0
      exact ⟨i, by omega, by rw [hqne i hi]; exact he⟩
  · rw [← B.cnt]
    refine cnt_one (v := N.to (q h) J) hvk (by simp; omega) (by simp [upd_same]; omega) (fun i hi hn => by simp [upd_ne _ _ hn])
  · by_cases e : v = N.to (q h) J
    · subst e
      refine .inr ⟨q h, hk, J, hJ, hge _ hL0, hr, rfl, ?_⟩
      rw [upd_same, upd_ne _ _ (hne _ hL0)]
    · rw [upd_ne _ _ e] at h0
      rcases B.pred v hv' h0 with h1 | ⟨u, hu, j, hj, h1, h2, h3, h4⟩
      · exact .inl h1
      · refine .inr ⟨u, hu, j, hj, hge u h1, h2, h3, ?_⟩
        rw [upd_ne _ _ e, upd_ne _ _ (hne u h1)]; exact h4
  · rw [hqne i (by omega)] at hj hr' ⊢
    exact hge _ (B.cl i hi j hj hr')
  · rw [hqne h hh] at hn hr' ⊢
    by_cases e : j = J
    · subst e; rw [upd_same]; omega
    · exact hge _ (B.part j (by omega) hn hr')
theorem Bfs.next (B : Bfs N r b L q ql h J) (hJ : N.n (q h) ≤ J) : Bfs N r b L q ql (h + 1) 0 := by
  refine ⟨B.b0, B.low, B.mem, B.cover, B.cnt, B.pred, fun i hi j hj hr => ?_, fun j hj => absurd hj (by omega)⟩
  by_cases e : i = h
  · subst e; exact B.part j (by omega) hj hr
  · exact B.cl i (by omega) j hj hr
theorem Bfs.done (B : Bfs N r b L q ql h J) (hh : ql ≤ h) : LevOk N r b L := by
  refine ⟨B.b0, fun v hv => ⟨B.low v hv, ?_⟩, fun u hu h0 j hj hr => ?_, B.pred⟩
  · by_cases h0 : 0 ≤ L v
    · obtain ⟨i, hi, he⟩ := B.cover v hv h0
      have := (B.mem i hi).2.2
      have h2 := B.le
      rw [he] at this
      omega
    · omega
  · obtain ⟨i, hi, he⟩ := B.cover u hu h0
    subst he
    exact B.cl i (by omega) j hj hr
/-- What is reached is the least set that nothing leads out of. -/
theorem LevOk.least (h : LevOk N r b L) {S : Nat → Bool} (hb : S b = true) (hc : ∀ u, u < N.k → S u = true → ∀ j, j < N.n u → 0 < r u j → S (N.to u j) = true) : ∀ v, v < N.k → 0 ≤ L v → S v = true := by
  have key : ∀ (d : Nat) v, v < N.k → 0 ≤ L v → L v = d → S v = true := by
    intro d
    induction d with
    | zero =>
      intro v hv h0 hd
      rcases h.pred v hv h0 with rfl | ⟨u, hu, j, hj, h1, h2, h3, h4⟩
      · exact hb
      · omega
    | succ d ih =>
      intro v hv h0 hd
      rcases h.pred v hv h0 with rfl | ⟨u, hu, j, hj, h1, h2, h3, h4⟩
      · exact hb
      · rw [← h3]; exact hc u hu (ih u hu h1 (by omega)) j hj h2
  intro v hv h0
  exact key (L v).toNat v hv h0 (by omega)
end

/-! ## a push -/
inductive Path (N : Net) (r : RM) (L : Nat → Int) (x : Nat) : Nat → Prop
  | stop : Path N r L x x
  | step {u j : Nat} : j < N.n u → 0 < r u j → L (N.to u j) = L u + 1 → Path N r L x (N.to u j) → Path N r L x u
theorem path_of {N : Net} {r : RM} {b x : Nat} {L : Nat → Int} (h : LevOk N r b L) (hx : x < N.k) (h0 : 0 ≤ L x) : Path N r L x b := by
  have key : ∀ (d : Nat) v, v < N.k → 0 ≤ L v → L v = d → Path N r L x v → Path N r L x b := by
    intro d
    induction d with
    | zero =>
      intro v hv h0 hd hp
      rcases h.pred v hv h0 with rfl | ⟨u, hu, j, hj, h1, h2, h3, h4⟩
      · exact hp
      · omega
    | succ d ih =>
      intro v hv h0 hd hp
      rcases h.pred v hv h0 with rfl | ⟨u, hu, j, hj, h1, h2, h3, h4⟩
      · exact hp
      · exact ih u hu h1 (by omega) (.step hj h2 (by rw [h3]; exact h4) (by rw [h3]; exact hp))
  exact key (L x).toNat x hx h0 (by omega) .stop
/-- No way leads on along the edges that were passed over. -/
def Dead (N : Net) (r : RM) (L : Nat → Int) (x : Nat) (nx : Nat → Nat) : Prop := ∀ u, u < N.k → ∀ j, j < nx u → j < N.n u → 0 < r u j → L (N.to u j) = L u + 1 → ¬ Path N r L x (N.to u j)
theorem path_congr {N : Net} (W : N.Wf) {r r' : RM} {L : Nat → Int} {x : Nat} (h : ∀ i, i < N.k → ∀ j, j < N.n i → r' i j = r i j) : ∀ {u}, Path N r' L x u → u < N.k → Path N r L x u := by
  intro u hp
  induction hp with
  | stop => intro _; exact .stop
  | step hj hr hl _ ih => intro hu; exact .step hj (by rw [← h _ hu _ hj]; exact hr) hl (ih (W.to_lt _ hu _ hj))
theorem dead_congr {N : Net} (W : N.Wf) {r r' : RM} {L : Nat → Int} {x : Nat} {nx : Nat → Nat} (h : ∀ i, i < N.k → ∀ j, j < N.n i → r' i j = r i j) (hd : Dead N r L x nx) : Dead N r' L x nx := by
  intro u hu j hj hn hr hl hp
  rw [h u hu j hn] at hr
  exact hd u hu j hj hn hr hl (path_congr W h hp (W.to_lt u hu j hn))

/-- Between two edges of a push from u. -/
structure PushI (N : Net) (L : Nat → Int) (x u : Nat) (r : RM) (nx : Nat → Nat) (m : Int) (r' : RM) (nx' : Nat → Nat) : Prop where
  fl : Fl N r r' u x m
  low : ∀ i, i < N.k → ∀ j, j < N.n i → L i < L u → r' i j = r i j
  nxl : ∀ i, i < N.k → nx i ≤ nx' i ∧ nx' i ≤ N.n i
  nlow : ∀ i, i < N.k → L i < L u → nx' i = nx i
  zero : m = 0 → (∀ i, i < N.k → ∀ j, j < N.n i → r' i j = r i j) ∧ (Dead N r L x nx → Dead N r L x nx')
/-- What a push has done. -/
structure PushR (N : Net) (L : Nat → Int) (x u : Nat) (r : RM) (nx : Nat → Nat) (most m : Int) (r' : RM) (nx' : Nat → Nat) : Prop extends PushI N L x u r nx m r' nx' where
  m0 : 0 ≤ m
  ml : m ≤ most
  none : m = 0 → Dead N r L x nx → 0 < most → ¬ Path N r L x u
section
variable {N : Net} {L : Nat → Int} {x u j : Nat} {r r1 r2 r3 : RM} {nx nx1 nx2 : Nat → Nat} {most m sent : Int}
theorem PushI.start {B : Int} (o : Ok N r B) (hn : ∀ i, i < N.k → nx i ≤ N.n i) : PushI N L x u r nx 0 r nx :=
  ⟨Fl.zero o, fun _ _ _ _ _ => rfl, fun i hi => ⟨Nat.le_refl _, hn i hi⟩, fun _ _ _ => rfl, fun _ => ⟨fun _ _ _ _ => rfl, fun h => h⟩⟩
theorem PushR.here {B : Int} (o : Ok N r B) (hn : ∀ i, i < N.k → nx i ≤ N.n i) (hm : 0 ≤ most) : PushR N L x x r nx most most r nx :=
  { fl := Fl.here o, low := fun _ _ _ _ _ => rfl, nxl := fun i hi => ⟨Nat.le_refl _, hn i hi⟩, nlow := fun _ _ _ => rfl, zero := fun _ => ⟨fun _ _ _ _ => rfl, fun h => h⟩,
    m0 := hm, ml := Int.le_refl _, none := fun h _ h0 => by omega }
/-- An edge that leads on: the push behind it, and the edge. -/
theorem PushI.edge (W : N.Wf) (I : PushI N L x u r nx sent r1 nx1) (hu : u < N.k) (hj : j < N.n u) (hl : L (N.to u j) = L u + 1) (hs : 0 ≤ sent)
    (K : PushR N L x (N.to u j) r1 nx1 (min (most - sent) (r1 u j)) m r2 nx2) : PushI N L x u r nx (sent + m) (along N r2 u j m) nx2 := by
  have hru : r2 u j = r1 u j := K.low u hu j hj (by omega)
  have hm : m ≤ r2 u j := by have := K.ml; omega
  have f2 := Fl.step W hu hj K.fl K.m0 hm
  refine ⟨I.fl.more f2, fun i hi q hq hL => ?_, fun i hi => ?_, fun i hi hL => ?_, fun h0 => ?_⟩
  · rw [along_ne (fun h => by rw [h.1] at hL; omega) (fun h => by rw [h.1] at hL; omega), K.low i hi q hq (by omega), I.low i hi q hq hL]
  · have h1 := I.nxl i hi; have h2 := K.nxl i hi; omega
  · rw [K.nlow i hi (by omega), I.nlow i hi hL]
  · have e1 : sent = 0 := by have := K.m0; omega
    have e2 : m = 0 := by omega
    obtain ⟨a1, a2⟩ := I.zero e1
    obtain ⟨b1, b2⟩ := K.zero e2
    refine ⟨fun i hi q hq => ?_, fun hd => ?_⟩
    · subst e2
      by_cases h1 : i = u ∧ q = j
      · obtain ⟨rfl, rfl⟩ := h1
        rw [along_at W hu hj, b1 i hi q hq, a1 i hi q hq]; omega
      · by_cases h2 : i = N.to u j ∧ q = N.back u j
        · obtain ⟨rfl, rfl⟩ := h2
          rw [along_bk, b1 _ hi _ hq, a1 _ hi _ hq]; omega
        · rw [along_ne h1 h2, b1 i hi q hq, a1 i hi q hq]
    · have d1 := a2 hd
      have d2 := b2 (dead_congr W a1 d1)
      exact dead_congr W (fun i hi q hq => (a1 i hi q hq).symm) d2
theorem PushI.full (I : PushI N L x u r nx sent r1 nx1) (hs : 0 ≤ sent) (h : sent = most) : PushR N L x u r nx most sent r1 nx1 :=
  { I with m0 := hs, ml := by omega, none := fun h0 _ h1 => by omega }
/-- The next edge's turn. -/
theorem PushI.skip (W : N.Wf) (I : PushI N L x u r nx sent r1 nx1) (hu : u < N.k) (hj : nx1 u = j) (hjn : j < N.n u) (hp : sent = 0 → Dead N r L x nx → 0 < r u j → L (N.to u j) = L u + 1 → ¬ Path N r L x (N.to u j)) :
    PushI N L x u r nx sent r1 (upd nx1 u (j + 1)) := by
  refine ⟨I.fl, I.low, fun i hi => ?_, fun i hi hL => ?_, fun h0 => ⟨(I.zero h0).1, fun hd => ?_⟩⟩
  · have := I.nxl i hi
    by_cases e : i = u
    · subst e; rw [upd_same]; omega
    · rw [upd_ne _ _ e]; exact this
  · rw [upd_ne _ _ (fun e => by subst e; omega)]; exact I.nlow i hi hL
  · intro v hv q hq hn hr hl
    by_cases e : v = u
    · subst e
      rw [upd_same] at hq
      by_cases e2 : q = j
      · subst e2; exact hp h0 hd hr hl
      · exact (I.zero h0).2 hd v hv q (by omega) hn hr hl
    · rw [upd_ne _ _ e] at hq
      exact (I.zero h0).2 hd v hv q hq hn hr hl
theorem PushI.done (I : PushI N L x u r nx sent r1 nx1) (hu : u < N.k) (hux : u ≠ x) (hn : N.n u ≤ nx1 u) (hs : 0 ≤ sent) (hm : sent ≤ most) : PushR N L x u r nx most sent r1 nx1 := by
  refine { I with m0 := hs, ml := hm, none := ?_ }
  intro h0 hd _ hp
  cases hp with
  | stop => exact hux rfl
  | step hj hr hl hp => exact (I.zero h0).2 hd u hu _ (by omega) hj hr hl hp
end
end Go.Proofs.Ytopmadlgolnmfaa

namespace Go.Proofs.Ytopmadlgolnmfaa
set_option linter.unusedVariables false
set_option linter.unusedSimpArgs false
open Go.RowKit

/-! ## parts as one part -/
def bun (Ms : List Mem) : Mem where
  fp := fps Ms
  holds := fun w => (∀ m ∈ Ms, m.holds w) ∧ ∀ (i j : Nat) (m m' : Mem), Ms[i]? = some m → Ms[j]? = some m' → i ≠ j → ∀ k, m.fp k → ¬ m'.fp k
  stable := fun w w' h ⟨h1, h2⟩ => ⟨fun m hm => m.stable w w' (fun k hk => h k ⟨m, hm, hk⟩) (h1 m hm), h2⟩
section
variable {w w0 : World} {F0 : Nat → Prop} {R Ms : List Mem}
theorem St.pack (S : St w0 F0 (Ms ++ R) w) : St w0 F0 (bun Ms :: R) w := by
  refine ⟨S.os, S.tape, S.out, S.size, S.ro, ?_, ?_, ?_⟩
  · intro m hm
    rcases List.mem_cons.1 hm with rfl | hm
    · refine ⟨fun m hm => S.res m (List.mem_append_left _ hm), fun i j m m' hi hj hij => S.disj i j m m' ?_ ?_ hij⟩
      · rw [List.getElem?_append_left (List.getElem?_eq_some_iff.1 hi).1]; exact hi
      · rw [List.getElem?_append_left (List.getElem?_eq_some_iff.1 hj).1]; exact hj
    · exact S.res m (List.mem_append_right _ hm)
  · intro m hm k hk
    rcases List.mem_cons.1 hm with rfl | hm
    · obtain ⟨m1, h1, h2⟩ := hk
      exact S.inn m1 (List.mem_append_left _ h1) k h2
    · exact S.inn m (List.mem_append_right _ hm) k hk
  · have key : ∀ (j : Nat) (b : Mem), R[j]? = some b → ∀ k, (bun Ms).fp k → ¬ b.fp k := by
      rintro j b hj k ⟨m, hm, hk⟩ hk'
      obtain ⟨i, hi⟩ := List.getElem?_of_mem hm
      have hil := (List.getElem?_eq_some_iff.1 hi).1
      refine S.disj i (Ms.length + j) m b ?_ ?_ (by omega) k hk hk'
      · rw [List.getElem?_append_left hil]; exact hi
      · rw [List.getElem?_append_right (by omega)]; simpa using hj
    intro i j a b hi hj hij k hk hk'
    cases i with
    | zero =>
      cases j with
      | zero => exact hij rfl
      | succ j => simp at hi hj; subst hi; exact key j b hj k hk hk'
    | succ i =>
      cases j with
      | zero => simp at hi hj; subst hj; exact key i a hi k hk' hk
      | succ j =>
        simp at hi hj
        refine S.disj (Ms.length + i) (Ms.length + j) a b ?_ ?_ (by omega) k hk hk'
        · rw [List.getElem?_append_right (by omega)]; simpa using hi
        · rw [List.getElem?_append_right (by omega)]; simpa using hj
theorem St.unpack (S : St w0 F0 (bun Ms :: R) w) : St w0 F0 (Ms ++ R) w := by
  obtain ⟨h1, h2⟩ := S.holds (i := 0) (m := bun Ms) rfl
  refine ⟨S.os, S.tape, S.out, S.size, S.ro, ?_, ?_, ?_⟩
  · intro m hm
    rcases List.mem_append.1 hm with hm | hm
    · exact h1 m hm
    · exact S.res m (List.mem_cons_of_mem _ hm)
  · intro m hm k hk
    rcases List.mem_append.1 hm with hm | hm
    · exact S.inn (bun Ms) (List.mem_cons_self ..) k ⟨m, hm, hk⟩
    · exact S.inn m (List.mem_cons_of_mem _ hm) k hk
  · intro i j a b hi hj hij k hk hk'
    rw [List.getElem?_append] at hi hj
    split at hi <;> split at hj
    · exact h2 i j a b hi hj hij k hk hk'
    · rename_i h3 h4
      exact S.disj 0 (j - Ms.length + 1) (bun Ms) b rfl (by simpa using hj) (by omega) k ⟨a, List.mem_of_getElem? hi, hk⟩ hk'
    · rename_i h3 h4
      exact S.disj 0 (i - Ms.length + 1) (bun Ms) a rfl (by simpa using hi) (by omega) k ⟨b, List.mem_of_getElem? hj, hk'⟩ hk
    · rename_i h3 h4
      exact S.disj (i - Ms.length + 1) (j - Ms.length + 1) a b (by simpa using hi) (by simpa using hj) (by omega) k hk hk'
end

/-- A block that is no cells: known, or no longer known. -/
def objM (b : Nat) (o : Obj) : Mem where
  fp := fun k => k = b
  holds := fun w => w.heap[b]? = some o
  stable := fun _ _ h h' => (h b rfl).trans h'
def defM (b : Nat) : Mem := objM b (.deferred (some []))
def anyM (b : Nat) : Mem where
  fp := fun k => k = b
  holds := fun _ => True
  stable := fun _ _ _ h => h

section
variable {w w0 : World} {F0 : Nat → Prop} {R : List Mem}
theorem putObj_keeps (w : World) (b : Nat) (o : Obj) : Keeps w (w.putObj b o) (fun k => k = b) :=
  ⟨rfl, rfl, rfl, by simp [World.putObj], fun k _ hk => World.putObj_heap_other (fun e => hk e)⟩
theorem St.putObj {i b : Nat} {o : Obj} (o' : Obj) (S : St w0 F0 R w) (hi : R[i]? = some (objM b o)) : St w0 F0 (R.set i (objM b o')) (w.putObj b o') :=
  S.updSame hi (putObj_keeps w b o') (World.putObj_heap_same (lt_of_heap (S.holds hi))) (fun _ h => h)
theorem St.newObj (S : St w0 F0 R w) (o : Obj) : St w0 F0 (objM w.heap.size o :: R) (w.alloc o) :=
  S.new (Keeps.alloc w _ _) (heap_alloc_new w o) fun k hk => by rw [show k = w.heap.size from hk]; simp
end

/-! ## within rounds -/
def FR (r : Option Nat) : Fence := { Fence.wide with round := r }
section
variable {P : Program} {r : Option Nat} {n : Nat}
theorem callsIn_FR {f : FuncId} {args : Array Value} {w : World} {R : Ending → World → Prop} : CallsIn (FR r) n P f args w R ↔ Calls P f args w R := callsIn_wide (n := n)
theorem rowsIn_FR {row : String} {args : Array Value} {w : World} {R : Value → World → Prop} (h : Rows P row args w R) : RowsIn (FR r) n P row args w R := by
  intro c cs _
  obtain ⟨v, w', h1, h2⟩ := h c cs
  exact ⟨v, w', h1, (stepsIn_wide (P := P)).2 h2⟩
def noDefer (o : Oper) : Bool := match o.op with | .defer _ => false | _ => true
theorem noDefer_spec {o : Oper} (h : noDefer o = true) : ∀ c, o.op ≠ .defer c := by
  intro c e
  unfold noDefer at h
  rw [e] at h
  cases h
theorem opIn {o : Oper} {K K1 : Act → World → Prop} {Q : Exit → Act → World → Prop} {a : Act} {w : World} (hd : noDefer o = true) (h : o.wp P a w K (onlyN K1)) : o.wpIn (FR r) n P a w K Q := by
  refine ⟨fun _ _ => trivial, ?_⟩
  rw [Oper.semAt_eq _ _ _ (noDefer_spec hd)]
  unfold Oper.wp at h
  revert h
  generalize (execOp a.eval o).run P w = res
  intro h
  cases res with
  | ok nx w' =>
    cases nx <;> simp only [Oper.upon, Oper.uponIn] at h ⊢ <;> first
      | exact h
      | exact h.elim
      | exact ⟨fun hh => (by cases hh), callsIn_FR.2 (Calls.mono h fun e w'' he => by
          cases e with
          | returned v => exact he
          | panicked c => exact he.elim
          | outgrown => obtain ⟨_, _, hh⟩ := he; exact hh.elim)⟩
      | exact ⟨fun hh => (by cases hh), rowsIn_FR h⟩
  | halt x w' => cases x <;> simp only [Oper.upon, Oper.uponIn] at h ⊢ <;> exact h.elim
theorem about_trivial {o : Oper} {a : Act} {w : World} : ∀ f, o.about P w a.eval = some f → (FR r).fn f := fun _ _ => trivial
theorem listIn {ops : Array Oper} {Q : Exit → Act → World → Prop} {l2 : List Oper} : ∀ (l1 : List Oper) (a : Act) (w : World), l1.all noDefer = true → wpList P ops (onlyN fun a w => wpListIn (FR r) n P ops Q l2 a w) l1 a w → wpListIn (FR r) n P ops Q (l1 ++ l2) a w := by
  intro l1
  induction l1 with
  | nil => intro a w _ h; exact h
  | cons o l1 ih =>
    intro a w hd h
    simp only [List.all_cons, Bool.and_eq_true] at hd
    simp only [List.cons_append]
    unfold wpList at h
    unfold wpListIn
    split
    · rename_i hw
      rw [if_pos hw] at h
      rcases h with h | ⟨_, _, _, h⟩
      · exact opIn hd.1 (Oper.wp_mono (fun a w h => ih a w hd.2 h) h)
      · exact h.elim
    · rename_i hw
      rw [if_neg hw] at h
      exact ⟨about_trivial, ih _ _ hd.2 h⟩
theorem list_in {ops : Array Oper} {Q : Exit → Act → World → Prop} {l : List Oper} {a : Act} {w : World} (m : Nat) (h : wpList P ops (onlyN fun a w => wpListIn (FR r) n P ops Q (l.drop m) a w) (l.take m) a w) (hd : (l.take m).all noDefer = true := by kernel_rfl) : wpListIn (FR r) n P ops Q l a w := by
  have := listIn (r := r) (n := n) (Q := Q) (l2 := l.drop m) (l.take m) a w hd h
  rwa [List.take_append_drop] at this
theorem in_list {ops : Array Oper} {Q : Exit → Act → World → Prop} {K : Act → World → Prop} {l : List Oper} {a : Act} {w : World} (hK : ∀ a w, K a w → Q .normal a w) (h : wpList P ops (onlyN K) l a w) (hd : l.all noDefer = true := by kernel_rfl) : wpListIn (FR r) n P ops Q l a w := by
  have := listIn (r := r) (n := n) (Q := Q) (ops := ops) (l2 := []) l a w hd (wpList_only (fun a w h => hK a w h) l a w h)
  rwa [List.append_nil] at this
end

/-- Code in a round of loop l. -/
def wpR (l : Nat) (P : Program) (c : Code) (Q : Exit → Act → World → Prop) (a : Act) (w : World) : Prop := c.wpIn (FR (some l)) 5 P Q a w

namespace Rd
section
variable {P : Program} {ly : Nat} {ops : Array Oper} {w w0 : World} {F0 : Nat → Prop} {R : List Mem} {Q : Exit → Act → World → Prop} {l : List Oper} {N : FN} {L : List (Nat × Value)} {a : Act} {x y : Code} {id : Nat}
theorem wp_seq_k (h : ∀ K : Act → World → Prop, (∀ a w, wpR ly P y Q a w → K a w) → wpR ly P x (Exit.then K Q) a w) : wpR ly P (.seq x y) Q a w := wpIn_seq_k h
theorem wp_skip (h : Q .normal a w) : wpR ly P .skip Q a w := wpIn_skip h
theorem wp_exit {i : Nat} (h : Q (.exit i) a w) : wpR ly P (.exit i) Q a w := wpIn_exit h
theorem wp_block {i : Nat} (h : wpR ly P x (Exit.inBlock i Q) a w) : wpR ly P (.block i x) Q a w := wpIn_block h
theorem one_list (h : wpList P l.toArray (onlyN fun a w => Q .normal a w) l a w) (hd : l.all noDefer = true := by kernel_rfl) : wpR ly P (.region id l.toArray false) Q a w :=
  wpIn_region_lit (in_list (fun _ _ h => h) h hd)
theorem seq_list (h : ∀ K : Act → World → Prop, (∀ a w, wpR ly P y Q a w → K a w) → wpList P l.toArray (onlyN K) l a w) (hd : l.all noDefer = true := by kernel_rfl) : wpR ly P (.seq (.region id l.toArray false) y) Q a w :=
  wpIn_seq (wpIn_region_lit (in_list (fun _ _ h => h) (h (fun a w => wpR ly P y Q a w) (fun _ _ h => h)) hd))
theorem sS (H : Fr N L a) (h : ∀ K : Act → Prop, (∀ a, wpR ly P y Q a w → K a) → SF P l.toArray w K N l L) (hd : l.all noDefer = true := by kernel_rfl) : wpR ly P (.seq (.region id l.toArray false) y) Q a w := by
  refine seq_list (fun K hK => ?_) hd
  have := h (fun a => K a w) (fun a ha => hK a w ha) a H
  have h2 := list_of_still (P := P) (ops := l.toArray) (w := w) (Q := onlyN K) l [] a (wpStill_mono (fun a ha => ha) _ _ this)
  simpa using h2
theorem sO (H : Fr N L a) (h : SF P l.toArray w (fun a => Q .normal a w) N l L) (hd : l.all noDefer = true := by kernel_rfl) : wpR ly P (.region id l.toArray false) Q a w := by
  refine one_list ?_ hd
  have h2 := list_of_still (P := P) (ops := l.toArray) (w := w) (Q := onlyN fun a w => Q .normal a w) l [] a (wpStill_mono (fun a ha => ha) _ _ (h a H))
  simpa using h2
theorem cond_ {t : Nat} {b : Bool} (H : Fr N L a) (hc : look L t = some (.bool b)) (h1 : b = true → wpR ly P x Q a w) (h2 : b = false → wpR ly P y Q a w) : wpR ly P (.cond (.tmp t) x y) Q a w :=
  wpIn_cond_split (H.eval (x := .tmp t) hc) h1 h2
theorem condL {t : Nat} {m n : Int} (H : Fr N L a) (hc : look L t = some (.bool (decide (m < n)))) (h1 : m < n → wpR ly P x Q a w) (h2 : n ≤ m → wpR ly P y Q a w) : wpR ly P (.cond (.tmp t) x y) Q a w :=
  cond_ H hc (fun h => h1 (by simpa using h)) (fun h => h2 (by simpa using h))
theorem condG {t : Nat} {m n : Int} (H : Fr N L a) (hc : look L t = some (.bool (decide (m ≤ n)))) (h1 : m ≤ n → wpR ly P x Q a w) (h2 : n < m → wpR ly P y Q a w) : wpR ly P (.cond (.tmp t) x y) Q a w :=
  cond_ H hc (fun h => h1 (by simpa using h)) (fun h => h2 (by simpa using h))
theorem condE {t : Nat} {m n : Int} (H : Fr N L a) (hc : look L t = some (.bool (decide (m = n)))) (h1 : m = n → wpR ly P x Q a w) (h2 : ¬ m = n → wpR ly P y Q a w) : wpR ly P (.cond (.tmp t) x y) Q a w :=
  cond_ H hc (fun h => h1 (by simpa using h)) (fun h => h2 (by simpa using h))
theorem condN {t : Nat} {m n : Int} (H : Fr N L a) (hc : look L t = some (.bool (!decide (m = n)))) (h1 : ¬ m = n → wpR ly P x Q a w) (h2 : m = n → wpR ly P y Q a w) : wpR ly P (.cond (.tmp t) x y) Q a w :=
  cond_ H hc (fun h => h1 (by simpa using h)) (fun h => h2 (by simpa using h))
theorem least_of {p : Nat → Prop} : (∃ n, p n) → ∃ n, p n ∧ ∀ m, p m → n ≤ m := by
  classical
  rintro ⟨n, hn⟩
  induction n using Nat.strongRecOn with
  | ind n ih =>
    by_cases h : ∃ m, m < n ∧ p m
    · obtain ⟨m, hm, hp⟩ := h
      exact ih m hm hp
    · refine ⟨n, hn, fun m hp => ?_⟩
      rcases Nat.lt_or_ge m n with hlt | hge
      · exact absurd ⟨m, hlt, hp⟩ h
      · exact hge
theorem loop_ {c : Code} (I : Nat → Act → World → Prop) (n0 : Nat) (h0 : I n0 a w)
    (round : ∀ n a w, I n a w → ∀ K : Act → World → Prop, (∀ n' a' w', n' < n → I n' a' w' → K a' w') → wpR ly P c (Exit.then K Q) a w) : wpR ly P (.loop c) Q a w := by
  classical
  have least := fun a w (h : ∃ n, I n a w) => least_of h
  obtain ⟨μ, hμ⟩ : ∃ μ : Act → World → Nat, ∀ a w, (∃ n, I n a w) → I (μ a w) a w ∧ ∀ m, I m a w → μ a w ≤ m :=
    ⟨fun a w => if h : ∃ n, I n a w then Classical.choose (least a w h) else 0, fun a w h => by (try dsimp only); rw [dif_pos h]; exact Classical.choose_spec (least a w h)⟩
  refine wpIn_loop (fun a w => ∃ n, I n a w) μ ⟨n0, h0⟩ ?_
  intro a w h
  have hs := hμ a w h
  refine round _ a w hs.1 _ fun n' a' w' hlt h' => ⟨⟨n', h'⟩, ?_⟩
  have := (hμ a' w' ⟨n', h'⟩).2 n' h'
  omega
theorem loop_st {c : Code} {X : Type} {L0 : List (Nat × Value)} {R0 : List Mem} (ks : List Nat) (H : Fr N L a) (_hk : pick ks L = some L0) (F : X → List (Nat × Value)) (M : X → List Mem) (Pr : Nat → X → Prop)
    (n0 : Nat) (x0 : X) (h0 : Pr n0 x0) (S0 : St w0 F0 (M x0 ++ R0) w) (H0 : Fr N (F x0 ++ L0) a)
    (round : ∀ g x a w, Pr g x → St w0 F0 (M x ++ R0) w → Fr N (F x ++ L0) a → ∀ K : Act → World → Prop, (∀ g' x' a' w', g' < g → Pr g' x' → St w0 F0 (M x' ++ R0) w' → Fr N (F x' ++ L0) a' → K a' w') → wpR ly P c (Exit.then K Q) a w) :
    wpR ly P (.loop c) Q a w :=
  loop_ (fun g a w => ∃ x, Pr g x ∧ St w0 F0 (M x ++ R0) w ∧ Fr N (F x ++ L0) a) n0 ⟨x0, h0, S0, H0⟩
    fun g a w ⟨x, hp, S, H⟩ K hK => round g x a w hp S H K fun g' x' a' w' hlt hp' S' H' => hK g' a' w' hlt ⟨x', hp', S', H'⟩
/-! statements in an open order -/
theorem wpOp_in {i : Nat} {K : Act → World → Prop} (hd : (ops.toList.all noDefer) = true) (h : wpOp P ops NoQ i K a w) : wpOpIn (FR (some ly)) 5 P ops Q i K a w := by
  unfold wpOp at h
  unfold wpOpIn
  split
  · rename_i ho; simp only [ho] at h; exact h
  · rename_i o ho
    simp only [ho] at h
    have hod : noDefer o = true := by
      have := List.all_eq_true.1 hd o (by rw [Array.getElem?_eq_some_iff] at ho; obtain ⟨h1, rfl⟩ := ho; simp)
      exact this
    split
    · rename_i hw
      simp only [hw, if_true] at h
      rcases h with h | ⟨_, _, _, h⟩
      · exact opIn hod (K1 := fun _ _ => False) (by
          unfold Oper.wp at h ⊢
          revert h
          generalize (execOp a.eval o).run P w = res
          intro h
          exact upon_q h)
      · exact h.elim
    · rename_i hw
      simp only [hw] at h
      exact ⟨about_trivial, h⟩
theorem any_in {C : World → Prop} {Qn : Act → World → Prop} (hd : (ops.toList.all noDefer) = true) (hQ : ∀ a w, Qn a w → Q .normal a w) : ∀ (fuel : Nat) (listed : Array Bool) (a : Act) (w : World), anyC P ops C Qn fuel listed a w → wpAnyIn (FR (some ly)) 5 P .any ops Q fuel listed a w
  | 0, _, _, _, h => ⟨h.1, hQ _ _ h.2⟩
  | fuel + 1, _, _, _, h => ⟨fun hr => hQ _ _ (h.1 hr), fun i hi => wpOpIn_mono (fun a' w' h' => any_in hd hQ fuel _ a' w' h'.2) (wpOp_in hd (h.2 i hi))⟩
theorem region_wq {C : World → Prop} (π : List (Nat × Bool)) (hm : P.follows .mixedOrders = true) (hck : ckAll ops π = true) (hd : (ops.toList.all noDefer) = true) (hC : C w.drew)
    (h : wq P ops C (fun a w => Q .normal a w) π a w.drew) : wpR ly P (.region id ops true) Q a w := by
  simp only [ckAll, Bool.and_eq_true] at hck
  obtain ⟨⟨h1, h2⟩, h3⟩ := hck
  refine wpIn_region_any hm (any_in (C := C) (Qn := fun a w => Q .normal a w) hd (fun _ _ h => h) _ _ _ _ ?_)
  have h4 := anyC_of_wq h1 π _ a _ h2 hC h
  rw [Nat.eq_of_beq_eq_true h3] at h4
  exact h4
theorem seq_wq {RE : List Mem} (π : List (Nat × Bool)) (hm : P.follows .mixedOrders = true) (hck : ckAll l.toArray π = true) (SE : St w0 F0 RE w.drew)
    (h : ∀ K : Act → World → Prop, (∀ a w, wpR ly P y Q a w → K a w) → wq P l.toArray (fun w' => St w0 F0 RE w') K π a w.drew) (hd : (l.toArray.toList.all noDefer) = true := by kernel_rfl) : wpR ly P (.seq (.region id l.toArray true) y) Q a w :=
  wpIn_seq (region_wq π hm hck hd SE (h _ (fun _ _ h => h)))
theorem one_wq {RE : List Mem} (π : List (Nat × Bool)) (hm : P.follows .mixedOrders = true) (hck : ckAll l.toArray π = true) (SE : St w0 F0 RE w.drew)
    (h : wq P l.toArray (fun w' => St w0 F0 RE w') (fun a w => Q .normal a w) π a w.drew) (hd : (l.toArray.toList.all noDefer) = true := by kernel_rfl) : wpR ly P (.region id l.toArray true) Q a w := region_wq π hm hck hd SE h
theorem any_inZ {C : World → Prop} {Qn : Act → World → Prop} {z : Nat} (hd : (ops.toList.all noDefer) = true) (hQ : ∀ a w, Qn a w → Q .normal a w) : ∀ (f : Bool) (fuel : Nat) (listed : Array Bool) (a : Act) (w : World), anyZ P ops C z Qn f fuel listed a w → wpAnyIn (FR (some ly)) 5 P .any ops Q fuel listed a w
  | _, 0, _, _, _, h => ⟨h.1, hQ _ _ h.2⟩
  | f, fuel + 1, _, _, _, h => ⟨fun hr => hQ _ _ (h.1 hr), fun i hi => wpOpIn_mono (fun a' w' h' => any_inZ hd hQ _ fuel _ a' w' h'.2) (wpOp_in hd (h.2 i hi))⟩
theorem region_wt {z : Nat} {C : World → Prop} (π : Wt) (hm : P.follows .mixedOrders = true) (hck : ckTree ops z π = true) (hd : (ops.toList.all noDefer) = true) (hC : C w.drew)
    (h : wt P ops C z (fun a w => Q .normal a w) π a w.drew) : wpR ly P (.region id ops true) Q a w := by
  simp only [ckTree, Bool.and_eq_true] at hck
  exact wpIn_region_any hm (any_inZ (C := C) (z := z) (Qn := fun a w => Q .normal a w) hd (fun _ _ h => h) _ _ _ _ _ (anyZ_of_wt hck.1 π false _ _ a _ hck.2 (.inr hC) h))
theorem seq_wt {RE : List Mem} (z : Nat) (π : Wt) (hm : P.follows .mixedOrders = true) (hck : ckTree l.toArray z π = true) (SE : St w0 F0 RE w.drew)
    (h : ∀ K : Act → World → Prop, (∀ a w, wpR ly P y Q a w → K a w) → wt P l.toArray (fun w' => St w0 F0 RE w') z K π a w.drew) (hd : (l.toArray.toList.all noDefer) = true := by kernel_rfl) : wpR ly P (.seq (.region id l.toArray true) y) Q a w :=
  wpIn_seq (region_wt π hm hck hd SE (h _ (fun _ _ h => h)))
theorem one_wt {RE : List Mem} (z : Nat) (π : Wt) (hm : P.follows .mixedOrders = true) (hck : ckTree l.toArray z π = true) (SE : St w0 F0 RE w.drew)
    (h : wt P l.toArray (fun w' => St w0 F0 RE w') z (fun a w => Q .normal a w) π a w.drew) (hd : (l.toArray.toList.all noDefer) = true := by kernel_rfl) : wpR ly P (.region id l.toArray true) Q a w := region_wt π hm hck hd SE h
theorem meet_sr {X : Type} {L0 : List (Nat × Value)} {R0 : List Mem} (ks : List Nat) (H : Fr N L a) (_hk : pick ks L = some L0) (F : X → List (Nat × Value)) (M : X → List Mem) (Pr : X → Prop)
    (_SR : St w0 F0 R0 w)
    (h1 : ∀ K : Act → World → Prop, (∀ x a' w', Pr x → St w0 F0 (M x ++ R0) w' → Fr N (F x ++ L0) a' → K a' w') → wpR ly P x (Exit.then K Q) a w)
    (h2 : ∀ x a' w', Pr x → St w0 F0 (M x ++ R0) w' → Fr N (F x ++ L0) a' → wpR ly P y Q a' w') : wpR ly P (.seq x y) Q a w :=
  wp_seq_k fun K hK => h1 K fun x a' w' hp S' H' => hK a' w' (h2 x a' w' hp S' H')
end
end Rd

/-! ## the statement -/
section
variable {P : Program} {w w0 : World} {F0 : Nat → Prop} {R : List Mem} {Q : Exit → Act → World → Prop} {N : Nat} {L : List (Nat × Value)} {a : Act}

theorem St.tl {m : Mem} (S : St w0 F0 (m :: R) w) : St w0 F0 R w :=
  ⟨S.os, S.tape, S.out, S.size, S.ro, fun x hx => S.res x (List.mem_cons_of_mem _ hx), fun x hx => S.inn x (List.mem_cons_of_mem _ hx), fun i j a b hi hj hij => S.disj (i + 1) (j + 1) a b (by simpa using hi) (by simpa using hj) (by omega)⟩
/-- What a round must do. -/
def Round (P : Program) (l : Nat) (v : Value) (J : Nat → Mem → Prop) (w0 : World) (F0 : Nat → Prop) (i : Nat) (x : Mem) (w : World) : Prop :=
  YieldAt Fence.wide 5 P l #[v] w fun e w2 => e = .returned (.bool true) ∧ ∃ m2, J (i + 1) m2 ∧ St w0 F0 [m2, x] w2

theorem putFr {p : Nat} {v : Value} (H : Fr ⟨N, []⟩ L a) (hp : Nat.blt p N = true) : Fr ⟨N, []⟩ ((p, v) :: L) { tmps := ((#[p] : Array Tmp).zip #[v]).foldl (fun tmps (t, a) => tmps.setIfInBounds t a) a.tmps, defers := [] } := by
  have h := H.put (d := p) v hp
  have e : ((#[p] : Array Tmp).zip #[v]).foldl (fun tmps (t, a) => tmps.setIfInBounds t a) a.tmps = (a.put (some p) v).tmps := by simp [Act.put]
  rw [e]
  exact ⟨h.size, rfl, h.at_⟩

theorem range_st {id t p d gf cnt : Nat} {fn : Func} {body : Code} {g : Operand} {lb : List Value} {m : Mem} {zs : List Value} {pos1 pos2 : String} {ty1 ty2 : TypeId} {af1 af2 : Array Edge}
    (H : Fr ⟨N, []⟩ L a) (S : St w0 F0 (m :: R) w) (hg : ev L g = some (.func (.func gf) #[] lb.toArray)) (hf : P.funcs[gf]? = some fn) (hfb : fn.body.isNone = false) (hn : (fn.name == "runtime.NumGoroutine") = false)
    (hp : Nat.blt p N = true) (hd : Nat.blt d N = true) (hdp : Nat.beq d p = false) (hz : Zero P t zs) (cs : Nat → List Value) (hcs : ∀ i, (cs i).length = zs.length) (hs : Sz P t zs.length) (h1 : ∀ i, ((cs i).all fun u => u.oneCell') = true)
    (J : Nat → Mem → Prop) (h0 : J 0 m) (In : World → (Nat → Prop) → Prop)
    (hiter : ∀ (l : Nat) (Jm : Nat → Mem → Prop) (M : Mem) (w' : World), Jm 0 M → St w0 F0 (M :: R) w' → (∀ i m' x w00 F00 w1, i < cnt → Jm i m' → In w00 F00 → St w00 F00 [m', x] w1 → Round P l (.agg (cs i).toArray) Jm w00 F00 i x w1) →
      Calls P gf (.func (.yield l) #[] #[] :: lb).toArray w' (Ret fun _ w2 => ∃ m', Jm cnt m' ∧ St w0 F0 (m' :: R) w2))
    (hbody : ∀ l i m' x w00 F00 w1 a1 b, i < cnt → J i m' → In w00 F00 → St w00 F00 [boxM b t (cs i), m', x] w1 → Fr ⟨N, []⟩ ((d, .pointer (some ⟨b, 0, none⟩)) :: (p, .agg (cs i).toArray) :: L) a1 →
      wpR l P body (onlyN fun _ w3 => ∃ m2, J (i + 1) m2 ∧ St w00 F00 [m2, x] w3) a1 w1)
    (hdone : ∀ D m' w' a', J cnt m' → St w0 F0 (defM D :: m' :: R) w' → Fr ⟨N, [⟨.collected D, #[]⟩]⟩ L a' → Q .normal a' w') :
    (Code.rangeFunc g #[p] (.region id ([⟨some d, .alloc t, ty1, pos1, af1, none⟩, ⟨none, .store t (.tmp d) (.tmp p), ty2, pos2, af2, none⟩].toArray) false) body).wp P Q a w := by
  refine (wpIn_wide (n := 9)).1 (wpIn_rangeFunc fun fid _ => ?_)
  obtain ⟨asg, hasg⟩ : ∃ asg, asg = Code.region id ([⟨some d, .alloc t, ty1, pos1, af1, none⟩, ⟨none, .store t (.tmp d) (.tmp p), ty2, pos2, af2, none⟩].toArray) false := ⟨_, rfl⟩
  rw [← hasg]
  obtain ⟨rec, hrec⟩ : ∃ rec : LoopState → Loop, rec = fun st => { state := st, pending := none, fn := fid, tmps := a.tmps, params := #[p], assign := asg, body, defers := w.heap.size } := ⟨_, rfl⟩
  obtain ⟨W1, hW1⟩ : ∃ W1, W1 = (w.alloc (.deferred (some []))).alloc (.loop (rec .ready)) := ⟨_, rfl⟩
  have hen : (Instr.enterLoop fid a.tmps #[p] asg body none).run P w = .ok (w.heap.size + 1, [⟨.collected w.heap.size, #[]⟩]) W1 := by rw [hW1, hrec]; exact run_enterLoop_outer fid a.tmps #[p] asg body
  have S1 := (S.newObj (.deferred (some []))).newObj (.loop (rec .ready))
  have hsz : (w.alloc (.deferred (some []))).heap.size = w.heap.size + 1 := by simp
  rw [hsz, ← hW1] at S1
  refine ⟨w.heap.size + 1, [⟨.collected w.heap.size, #[]⟩], W1, ⟨.fn (.func gf) lb.toArray, #[.func (.yield (w.heap.size + 1)) #[] #[]]⟩, W1, gf, (.func (.yield (w.heap.size + 1)) #[] #[] :: lb).toArray, W1, hen, ?_, fun _ _ => trivial, ?_, (fun h => by cases h), ?_⟩
  · have hgv := H.eval hg
    simp only [rangeCall, resolve, hgv]
    simp [Deferred.ofValue, Act.eval]
  · have hfb' : fn.body ≠ none := by intro e; rw [e] at hfb; simp at hfb
    have hn' : ¬ fn.name = "runtime.NumGoroutine" := by simpa using hn
    have e : (#[.func (.yield (w.heap.size + 1)) #[] #[]] : Array Value) ++ lb.toArray = (.func (.yield (w.heap.size + 1)) #[] #[] :: lb).toArray := by simp
    rw [← e]
    simp [invoke, callFunc, hf, hn', hfb']
  · have S2 := St.pack (Ms := [objM (w.heap.size + 1) (.loop (rec .ready)), defM w.heap.size, m]) (R := R) S1
    refine callsIn_wide.2 (Calls.mono (hiter (w.heap.size + 1) (fun i M => ∃ m', J i m' ∧ M = bun [objM (w.heap.size + 1) (.loop (rec .ready)), defM w.heap.size, m']) _ _ ⟨m, h0, rfl⟩ S2 ?_) ?_)
    · rintro i M x w00 F00 w1 hi ⟨m', hJ, rfl⟩ hIn SM
      have S3 := St.unpack SM
      have hrd : w1.heap[w.heap.size + 1]? = some (.loop (rec .ready)) := S3.holds (i := 0) rfl
      have hy := run_yield (P := P) (args := #[.agg (cs i).toArray]) hrd (by rw [hrec]; rfl)
      rw [hrec] at hy
      refine ⟨fid, _, asg, body, hy, roundIn_of_wpIn (F := Fence.wide) trivial ?_⟩
      subst hasg
      refine wpIn_region_lit (F := FR (some (w.heap.size + 1))) (n := 5) ?_
      refine in_list (K := fun a w9 => ∃ w2, (Instr.beginRound (w.heap.size + 1)).run P w9 = .ok () w2 ∧ body.wpIn (Fence.wide.inRound (w.heap.size + 1)) 5 P _ a w2) (fun _ _ h => h) ?_ rfl
      have HR := putFr (v := .agg (cs i).toArray) H hp
      refine list_alloc HR hd S3 hz fun b9 w9 a9 _ _ S9 H9 => ?_
      refine list_store H9 S9 (i := 0) rfl (x := .tmp d) (y := .tmp p) (v := .agg (cs i).toArray) (vs := cs i) (by simp [ev, look]; rfl) ?_ rfl (by rw [hcs]; exact hs) (by simp [hcs]) (h1 i) fun w8 a8 S8 H8 => wpList_nil ?_
      · show look _ p = _
        simp [look, hdp]
      · have hspl : splice zs 0 (cs i) = cs i := by rw [splice_eq _ _ _ (by rw [hcs]; omega)]; simp [hcs]
        rw [hspl] at S8
        have hr8 : w8.heap[w.heap.size + 1]? = some (.loop (rec .ready)) := S8.holds (i := 1) rfl
        refine ⟨_, run_beginRound hr8 (by rw [hrec]), ?_⟩
        have S7 := S8.putObj (.loop { rec .ready with state := .busy }) (i := 1) rfl
        have S6 := S7.sel [1, 2, 4, 0, 3] rfl rfl
        have S5 := (St.pack (Ms := [objM (w.heap.size + 1) (.loop { rec .ready with state := .busy }), defM w.heap.size, x]) (R := [_, _]) S6).sel [1, 2, 0] rfl rfl
        refine wpIn_mono (hbody _ i m' _ w00 F00 _ a8 b9 hi hJ hIn S5 H8) ?_
        intro e a3 w3 hpo
        cases e with
        | normal =>
          obtain ⟨m2, hJ2, S4⟩ := hpo
          have S3' := St.unpack (S4.sel [1, 0] rfl rfl)
          have hr3 : w3.heap[w.heap.size + 1]? = some (.loop { rec .ready with state := .busy }) := S3'.holds (i := 0) rfl
          refine ⟨_, _, run_endRound none hr3, rfl, bun [objM (w.heap.size + 1) (.loop (rec .ready)), defM w.heap.size, m2], ⟨m2, hJ2, rfl⟩, ?_⟩
          have S2' := S3'.putObj (.loop (rec .ready)) (i := 0) rfl
          have S1' := St.pack (Ms := [objM (w.heap.size + 1) (.loop (rec .ready)), defM w.heap.size, m2]) (R := [x]) (S2'.sel [0, 1, 3, 2] rfl rfl)
          have e1 : ({ { rec .ready with state := .busy } with state := if (none : Option Code).isNone then .ready else .done, pending := none } : Loop) = rec .ready := by rw [hrec]; rfl
          rw [e1]
          exact S1'
        | _ => exact hpo.elim
    · intro e w2 he
      cases e with
      | returned v =>
        obtain ⟨_, ⟨m', hJ, rfl⟩, SM⟩ := he
        have S3 := St.unpack SM
        have hr3 : w2.heap[w.heap.size + 1]? = some (.loop (rec .ready)) := S3.holds (i := 0) rfl
        refine ⟨_, _, run_endLoop hr3 (by rw [hrec]; simp), ?_⟩
        have e1 : (rec .ready).pending = none := by rw [hrec]
        rw [e1]
        refine hdone w.heap.size m' _ _ hJ (S3.putObj _ (i := 0) rfl).tl ⟨H.size, ?_, H.at_⟩
        show _ ++ a.defers = _
        rw [H.defs]
        rfl
      | panicked _ => exact he.elim
      | outgrown => exact he.elim

/-! ## functions that hold such a loop -/
def bodyM (P : Program) (fn : Func) (R : Ending → World → Prop) : Exit → Act → World → Prop := bodyPostM Fence.wide 9 P fn R
theorem enterM {f : FuncId} {fn : Func} {c : Code} {vs : List Value} {R : Ending → World → Prop} (hf : P.funcs[f]? = some fn) (hb : fn.body = some c) (hN : fn.ntmps = N) (hle : Nat.ble vs.length N = true)
    (k : ∀ a, Fr ⟨N, []⟩ (number 0 vs) a → c.wp P (bodyM P fn R) a w) : Calls P f vs.toArray w R :=
  callsIn_wide.1 (callsIn_of_wp_marks (F := Fence.wide) (n := 9) hf hb trivial ((wpIn_wide (n := 9)).2 (k _ (Fr.entry vs hN hle))))
theorem leaves_val {fn : Func} {R : Ending → World → Prop} {v : Value} (hr : (results fn a.tmps).run P w = .ok v w) (h : R (.returned v) w) : LeavesInM Fence.wide 9 P fn a.tmps R [] .returning w := ⟨v, hr, h⟩
/-- Behind the loop: the block of its deferred calls is shut. -/
theorem retC0 {D i : Nat} {fn : Func} {R : List Mem} {Rt : Value → World → Prop} {v : Value} (H : Fr ⟨N, [⟨.collected D, #[]⟩]⟩ L a) (S : St w0 F0 R w) (hi : R[i]? = some (defM D)) (hr : ∀ w', (results fn a.tmps).run P w' = .ok v w') (h : ∀ w', St w0 F0 (R.set i (anyM D)) w' → Rt v w') : bodyM P fn (Ret Rt) .ret a w := by
  show LeavesInM Fence.wide 9 P fn a.tmps (Ret Rt) a.defers .returning w
  rw [H.defs]
  have hD : w.heap[D]? = some (.deferred (some [])) := S.holds hi
  refine ⟨(fun h => by cases h), .inl ⟨D, _, rfl, run_takeDeferred hD, leaves_val (a := a) (hr _) (h _ ?_)⟩⟩
  exact S.updSame hi (putObj_keeps w D _) trivial (fun _ h => h)
theorem retC1 {D i : Nat} {fn : Func} {R : List Mem} {Rt : Value → World → Prop} {t : Nat} {v : Value} (hrs : fn.results = #[.tmp t]) (H : Fr ⟨N, [⟨.collected D, #[]⟩]⟩ L a) (S : St w0 F0 R w) (hi : R[i]? = some (defM D)) (hv : look L t = some v) (h : ∀ w', St w0 F0 (R.set i (anyM D)) w' → Rt v w') : bodyM P fn (Ret Rt) .ret a w :=
  retC0 H S hi (fun w' => by rw [results_tmp hrs]; simp [H.at_ _ _ hv]) h
/-! ## the iterator's side: a call of yield -/
variable {ops : Array Oper} {rest l : List Oper} {ty : TypeId} {pos : String} {af : Array Edge} {y : Code} {id : Nat}
def LI (P : Program) (ops : Array Oper) (Q : Exit → Act → World → Prop) (l : List Oper) (a : Act) (w : World) : Prop := wpListIn (FR none) 6 P ops Q l a w
theorem seq_in (h : ∀ K : Act → World → Prop, (∀ a w, y.wp P Q a w → K a w) → LI P l.toArray (Exit.then K Q) l a w) : (Code.seq (.region id l.toArray false) y).wp P Q a w :=
  wp_seq ((wpIn_wide (n := 6)).1 (wpIn_region_lit (h (fun a w => y.wp P Q a w) (fun _ _ h => h))))
theorem li_list (m : Nat) (h : wpList P ops (onlyN fun a w => LI P ops Q (l.drop m) a w) (l.take m) a w) (hd : (l.take m).all noDefer = true := by kernel_rfl) : LI P ops Q l a w := list_in m h hd
theorem li_yes {NN : FN} {d : Option Nat} {op : Op} {i g : Nat} {b c : Bool} (H : Fr NN L a) (hg : (ops[i]?).bind (·.dst) = some g) (hc : look L g = some (.bool c)) (e : c = b)
    (k : LI P ops Q (⟨d, op, ty, pos, af, none⟩ :: rest) a w) : LI P ops Q (⟨d, op, ty, pos, af, some (i, b)⟩ :: rest) a w := by
  subst e
  unfold LI wpListIn at k ⊢
  rw [if_pos (wanted_yes H hg hc)]
  have hw : Region.wanted ⟨d, op, ty, pos, af, none⟩ (yielded ops a.tmps) = true := rfl
  rw [if_pos hw] at k
  exact ⟨about_trivial, k.2⟩
theorem li_yield {NN : FN} {d t ln : Nat} {x : Operand} {ats : Array TypeId} {v : Value} {Rt : Ending → World → Prop} (H : Fr NN L a) (hd : Nat.blt d NN.n = true) (ht : look L t = some (.func (.yield ln) #[] #[])) (hx : ev L x = some v)
    (hy : YieldAt Fence.wide 5 P ln #[v] w Rt) (hR : ∀ e w', Rt e w' → e = .returned (.bool true)) (k : ∀ w' a', Rt (.returned (.bool true)) w' → Fr NN ((d, .bool true) :: L) a' → LI P ops Q rest a' w') :
    LI P ops Q (⟨some d, .call ⟨.value (.tmp t), #[x], ats⟩, ty, pos, af, none⟩ :: rest) a w := by
  obtain ⟨fid, tmps, asg, body, hrun, hround⟩ := hy
  refine wpListIn_plain rfl fun K hK => ⟨about_trivial, ?_⟩
  have e1 : a.eval (.tmp t) = .func (.yield ln) #[] #[] := H.eval (x := .tmp t) ht
  have e2 : (Oper.semAt (FR none).round a.eval ⟨some d, .call ⟨.value (.tmp t), #[x], ats⟩, ty, pos, af, none⟩).run P w = .ok (.round ln fid tmps asg body) w := by
    rw [Oper.semAt_eq _ _ _ (fun c h => by cases h)]
    simp [execOp, resolve, e1, Deferred.ofValue, H.eval hx, invoke, hrun]
  rw [e2]
  refine ⟨(fun h => by cases h), RoundIn.mono (F := FR none) (n := 5) hround fun e w' he => ?_⟩
  have := hR e w' he
  subst this
  exact hK _ _ (k w' _ he (H.put _ hd))
end
end Go.Proofs.Ytopmadlgolnmfaa

namespace Go.Proofs.Ytopmadlgolnmfaa
set_option linter.unusedVariables false
set_option linter.unusedSimpArgs false
open Go.RowKit
theorem nat_or {m k : Nat} (h : m / 2 ^ k % 2 = 0) : m ||| 2 ^ k = m + 2 ^ k := by
  have hq : m / 2 ^ k = 2 * (m / 2 ^ k / 2) := by omega
  have hm : m = 2 ^ k * (2 * (m / 2 ^ k / 2)) + m % 2 ^ k := by rw [← hq]; exact (Nat.div_add_mod m (2 ^ k)).symm
  have hr : m % 2 ^ k < 2 ^ k := Nat.mod_lt _ (Nat.two_pow_pos k)
  generalize m / 2 ^ k / 2 = q at hm
  generalize m % 2 ^ k = r at hm hr
  subst hm
  have e1 : 2 ^ k * (2 * q) + r = 2 ^ k * (2 * q) ||| r := Nat.two_pow_add_eq_or_of_lt hr _
  have e2 : 2 ^ k * (2 * q + 1) + r = 2 ^ k * (2 * q + 1) ||| r := Nat.two_pow_add_eq_or_of_lt hr _
  have e3 : 2 * q + 1 = 2 * q ||| 1 := Nat.two_pow_add_eq_or_of_lt (i := 1) (by omega) q
  have e4 : 2 ^ k * (2 * q + 1) = 2 ^ k * (2 * q) ||| 2 ^ k := by
    rw [e3, Nat.mul_comm, ← Nat.shiftLeft_eq, Nat.shiftLeft_or_distrib, Nat.shiftLeft_eq, Nat.shiftLeft_eq, Nat.one_mul, Nat.mul_comm]
  have e5 : 2 ^ k * (2 * q) + r + 2 ^ k = 2 ^ k * (2 * q + 1) + r := by rw [Nat.mul_add]; omega
  rw [e5, e2, e4, e1, Nat.or_assoc, Nat.or_comm r, ← Nat.or_assoc]
section
variable {P : Program} {L : List (Nat × Value)} {w : World} {d : Option Nat} {ty : TypeId} {pos : String} {af : Array Edge} {g : Option (Nat × Bool)}
end
end Go.Proofs.Ytopmadlgolnmfaa
