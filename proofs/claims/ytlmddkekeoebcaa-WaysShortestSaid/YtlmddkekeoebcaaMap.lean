/- Maps: a list of keys and values, in the order in which they came. -/
import Derived.Test.YtlmddkekeoebcaaRag
import Derived.RangeFuncRecord
namespace Go.Proofs.Ytlmddkekeoebcaa
set_option linter.unusedVariables false
set_option linter.unusedSimpArgs false
open Go.RowKit

def findL {κ : Type} [DecidableEq κ] (k : κ) : List (κ × Value) → Nat → Option (Nat × Value)
  | [], _ => none
  | p :: l, i => if k = p.1 then some (i, p.2) else findL k l (i + 1)
def getL {κ : Type} [DecidableEq κ] (l : List (κ × Value)) (k : κ) : Option Value := (findL k l 0).map (·.2)
def setL {κ : Type} [DecidableEq κ] (l : List (κ × Value)) (k : κ) (v : Value) : List (κ × Value) := match findL k l 0 with
  | some (i, _) => l.modify i fun p => (p.1, v)
  | none => l ++ [(k, v)]
theorem findL_shift {κ : Type} [DecidableEq κ] (k : κ) : ∀ (l : List (κ × Value)) (i : Nat), findL k l i = (findL k l 0).map (fun q => (q.1 + i, q.2)) := by
  intro l
  induction l with
  | nil => intro i; rfl
  | cons p l ih =>
    intro i
    simp only [findL]
    by_cases h : k = p.1
    · rw [if_pos h, if_pos h]; simp
    · rw [if_neg h, if_neg h, ih (i + 1), ih 1, Option.map_map]
      congr 1
      funext q
      simp only [Function.comp, Prod.mk.injEq, and_true]
      omega
theorem getL_cons {κ : Type} [DecidableEq κ] (k : κ) (p : κ × Value) (l : List (κ × Value)) : getL (p :: l) k = if k = p.1 then some p.2 else getL l k := by
  unfold getL
  simp only [findL]
  by_cases h : k = p.1
  · rw [if_pos h, if_pos h]; rfl
  · rw [if_neg h, if_neg h, findL_shift, Option.map_map]; rfl
theorem setL_cons {κ : Type} [DecidableEq κ] (k : κ) (v : Value) (p : κ × Value) (l : List (κ × Value)) : setL (p :: l) k v = if k = p.1 then (p.1, v) :: l else p :: setL l k v := by
  unfold setL
  simp only [findL]
  by_cases h : k = p.1
  · rw [if_pos h, if_pos h]; rfl
  · rw [if_neg h, if_neg h, findL_shift]
    cases hf : findL k l 0 with
    | none => rfl
    | some q => obtain ⟨i, u⟩ := q; rfl
theorem getL_set {κ : Type} [DecidableEq κ] (v : Value) (k k' : κ) : ∀ (l : List (κ × Value)), getL (setL l k v) k' = if k' = k then some v else getL l k' := by
  intro l
  induction l with
  | nil =>
    show getL [(k, v)] k' = _
    rw [getL_cons]
  | cons p l ih =>
    rw [setL_cons]
    by_cases h : k = p.1
    · rw [if_pos h, getL_cons, getL_cons]
      dsimp only
      rw [← h]
      by_cases h2 : k' = k
      · rw [if_pos h2, if_pos h2]
      · rw [if_neg h2, if_neg h2, if_neg h2]
    · rw [if_neg h, getL_cons, getL_cons, ih]
      by_cases h2 : k' = p.1
      · rw [if_pos h2, if_pos h2, if_neg (fun e => h (by rw [← e, h2]))]
      · rw [if_neg h2, if_neg h2]

/-- How keys of a kind are found. -/
structure KeyOk {κ : Type} [DecidableEq κ] (P : Program) (kt : TypeId) (enc : κ → Value) : Prop where
  find : ∀ (l : List (κ × Value)) (k : κ) (es : List MapEntry) (w : World), es.map (fun e => (e.key, e.val)) = l.map (fun p => (enc p.1, p.2)) → (Instr.findKey kt (enc k) es).run P w = .ok (findL k l 0) w
  check : ∀ (e : Bool) (k : κ) (w : World), (Instr.checkKey e 10000 kt (enc k)).run P w = .ok () w
  bits : ∀ k : κ, Instr.sameBits 10000 (enc k) (enc k) = true

theorem keyOk_int {P : Program} {kt : TypeId} (h : P.underlying kt = some (.int .i64)) : KeyOk P kt (fun n : Int => .int .i64 n) := by
  refine ⟨fun l k es w he => ?_, fun e k w => ?_, fun k => by simp [Instr.sameBits]⟩
  · have key : ∀ (l : List (Int × Value)) (es : List MapEntry) (i : Nat), es.map (fun e => (e.key, e.val)) = l.map (fun p => (Value.int .i64 p.1, p.2)) → Instr.findNow (.int .i64) (.int .i64 k) es i = some (findL k l i) := by
      intro l
      induction l with
      | nil => intro es i he; have : es = [] := by simpa using he
               subst this; rfl
      | cons p l ih =>
        intro es i he
        cases es with
        | nil => simp at he
        | cons e es =>
          simp only [List.map_cons, List.cons.injEq, Prod.mk.injEq] at he
          obtain ⟨⟨h1, h2⟩, h3⟩ := he
          simp only [Instr.findNow, h1, Instr.sameNow, if_true, findL]
          by_cases hk : k = p.1
          · subst hk; simp [h2]
          · have hb : (k == p.1) = false := by simp [hk]
            rw [hb, if_neg hk]
            exact ih es (i + 1) h3
    simp [Instr.findKey, run_und h, key l es 0 he]
  · rw [show (10000 : Nat) = 9999 + 1 from rfl, Instr.checkKey]
    simp only [Sem.run_bind, run_und h, Result.andThen_ok]
    rfl

def mapM {κ : Type} (enc : κ → Value) (b : Nat) (l : List (κ × Value)) : Mem where
  fp := fun k => k = b
  holds := fun w => ∃ (es : Array MapEntry) (ck : Nat), w.heap[b]? = some (.map es ck) ∧ es.toList.map (fun e => (e.key, e.val)) = l.map (fun p => (enc p.1, p.2))
  stable := fun _ _ h ⟨es, ck, h1, h2⟩ => ⟨es, ck, (h b rfl).trans h1, h2⟩

section
variable {P : Program} {ops : Array Oper} {w w0 : World} {F0 : Nat → Prop} {R : List Mem} {Q : Exit → Act → World → Prop} {rest : List Oper} {N : FN} {L : List (Nat × Value)} {a : Act} {ty : TypeId} {pos : String} {af : Array Edge}
variable {κ : Type}
theorem list_makeMap {d t : Nat} (enc : κ → Value) (H : Fr N L a) (hd : Nat.blt d N.n = true) (S : St w0 F0 R w)
    (k : ∀ b w' a', w0.heap.size ≤ b → St w0 F0 (mapM enc b [] :: R) w' → Fr N ((d, .map (some b)) :: L) a' → wpList P ops Q rest a' w') :
    wpList P ops Q (⟨some d, .makeMap t none, ty, pos, af, none⟩ :: rest) a w := by
  refine wpList_plain rfl fun K hK => ?_
  unfold Oper.wp
  have e : (execOp a.eval ⟨some d, .makeMap t none, ty, pos, af, none⟩).run P w = .ok (.value (.map (some w.heap.size))) (w.alloc (.map #[] 0)) := by
    simp [execOp, Instr.makeMap, newObj, Sem.run]
  rw [e]
  refine hK _ _ (k w.heap.size _ _ S.size (S.new (Keeps.alloc w _ _) ⟨#[], 0, heap_alloc_new w _, rfl⟩ ?_) (H.put _ hd))
  intro q hq
  rw [show q = w.heap.size from hq]
  simp

theorem modify_map (f : MapEntry → MapEntry) (g : κ × Value → κ × Value) (e1 : MapEntry → Value × Value) (e2 : κ × Value → Value × Value) : ∀ (es : List MapEntry) (l : List (κ × Value)) (i : Nat), es.map e1 = l.map e2 → (∀ e p, e1 e = e2 p → es[i]? = some e → l[i]? = some p → e1 (f e) = e2 (g p)) → (es.modify i f).map e1 = (l.modify i g).map e2 := by
  intro es
  induction es with
  | nil => intro l i h _; cases l with
           | nil => simp
           | cons _ _ => simp at h
  | cons e es ih =>
    intro l i h hf
    cases l with
    | nil => simp at h
    | cons p l =>
      simp only [List.map_cons, List.cons.injEq] at h
      cases i with
      | zero => simp only [List.modify_zero_cons, List.map_cons, h.2, hf e p h.1 rfl rfl]
      | succ i => simp only [List.modify_succ_cons, List.map_cons, h.1, ih l i h.2 (fun e p h1 h2 h3 => hf e p h1 (by simpa using h2) (by simpa using h3))]
end
def MapT (P : Program) (t k e : TypeId) : Prop := P.underlying t = some (.map k e)
def ZeroV (P : Program) (t : Nat) (z : Value) : Prop := (P.info? t).map (·.zero) = some (some z)
section
variable {P : Program} {ops : Array Oper} {w w0 : World} {F0 : Nat → Prop} {R : List Mem} {Q : Exit → Act → World → Prop} {rest : List Oper} {N : FN} {L : List (Nat × Value)} {a : Act} {ty : TypeId} {pos : String} {af : Array Edge}
variable {κ : Type} [DecidableEq κ] {enc : κ → Value} {l : List (κ × Value)}

theorem run_zeroV {t : Nat} {z : Value} (h : ZeroV P t z) : (zeroValue t).run P w = .ok z w := by
  unfold ZeroV at h
  cases hi : P.info? t with
  | none => rw [hi] at h; simp at h
  | some i => rw [hi] at h; simp at h; simp [zeroValue, typeInfo, hi, h]

theorem run_lookup {t kt et b : Nat} {z : Value} {k : κ} (ht : MapT P t kt et) (hk : KeyOk P kt enc) (hz : ZeroV P et z) (h : (mapM enc b l).holds w) (ok : Bool) :
    (Instr.lookup t (.map (some b)) (enc k) ok).run P w = .ok (if ok then .tuple #[(getL l k).getD z, .bool (getL l k).isSome] else (getL l k).getD z) w := by
  obtain ⟨es, ck, hb, he⟩ := h
  have hf := hk.find l k es.toList w he
  have hg : (getObj b).run P w = .ok (.map es ck) w := by simp [getObj, Sem.run, hb]
  unfold MapT at ht
  simp only [Instr.lookup, Sem.run_bind, run_und ht, Result.andThen_ok, hg, Sem.run_pure, hk.check, hf]
  unfold getL
  cases hfl : findL k l 0 with
  | none => cases ok <;> simp [run_zeroV hz]
  | some q => obtain ⟨i, v⟩ := q; cases ok <;> simp

theorem does_lookup {x y : Operand} {t kt et b i : Nat} {d : Option Nat} {g : Option (Nat × Bool)} {z : Value} {k : κ} (S : St w0 F0 R w) (hi : R[i]? = some (mapM enc b l)) (ht : MapT P t kt et) (hk : KeyOk P kt enc) (hz : ZeroV P et z) (hx : ev L x = some (.map (some b))) (hy : ev L y = some (enc k)) :
    Does P L ⟨d, .lookup t x y false, ty, pos, af, g⟩ w ((getL l k).getD z) := fun ρ hρ => by
  have := run_lookup (k := k) ht hk hz (S.holds hi) false
  simp [execOp, hρ _ _ hx, hρ _ _ hy, this]
theorem does_lookupOk {x y : Operand} {t kt et b i : Nat} {d : Option Nat} {g : Option (Nat × Bool)} {z : Value} {k : κ} (S : St w0 F0 R w) (hi : R[i]? = some (mapM enc b l)) (ht : MapT P t kt et) (hk : KeyOk P kt enc) (hz : ZeroV P et z) (hx : ev L x = some (.map (some b))) (hy : ev L y = some (enc k)) :
    Does P L ⟨d, .lookup t x y true, ty, pos, af, g⟩ w (.tuple #[(getL l k).getD z, .bool (getL l k).isSome]) := fun ρ hρ => by
  have := run_lookup (k := k) ht hk hz (S.holds hi) true
  simp [execOp, hρ _ _ hx, hρ _ _ hy, this]

theorem findL_at {k : κ} : ∀ {l : List (κ × Value)} {i : Nat} {v : Value}, findL k l 0 = some (i, v) → l[i]? = some (k, v) := by
  intro l
  induction l with
  | nil => intro i v h; cases h
  | cons p l ih =>
    intro i v h
    simp only [findL] at h
    by_cases hk : k = p.1
    · rw [if_pos hk] at h
      injection h with h
      injection h with h1 h2
      subst h1; subst h2; subst hk
      rfl
    · rw [if_neg hk, findL_shift] at h
      cases hf : findL k l 0 with
      | none => rw [hf] at h; cases h
      | some q =>
        rw [hf] at h
        injection h with h
        injection h with h1 h2
        subst h1; subst h2
        have := ih (i := q.1) (v := q.2) (by rw [hf])
        simpa using this

theorem list_mapUpdate {x y u : Operand} {t kt et b i : Nat} {k : κ} {v : Value} (H : Fr N L a) (S : St w0 F0 R w) (hi : R[i]? = some (mapM enc b l)) (ht : MapT P t kt et) (hk : KeyOk P kt enc) (hx : ev L x = some (.map (some b))) (hy : ev L y = some (enc k)) (hu : ev L u = some v)
    (kk : ∀ w' a', St w0 F0 (R.set i (mapM enc b (setL l k v))) w' → Fr N L a' → wpList P ops Q rest a' w') :
    wpList P ops Q (⟨none, .mapUpdate t x y u, ty, pos, af, none⟩ :: rest) a w := by
  refine wpList_plain rfl fun K hK => ?_
  obtain ⟨es, ck, hb, he⟩ := S.holds hi
  have hf := hk.find l k es.toList w he
  have hg : (getObj b).run P w = .ok (.map es ck) w := by simp [getObj, Sem.run, hb]
  have hs : ∀ o, (setObj b o).run P w = .ok () (w.putObj b o) := fun o => by simp [setObj, Sem.run, hb, World.putObj]
  have hkeeps : ∀ o, Keeps w (w.putObj b o) (fun k => k = b) := fun o => ⟨rfl, rfl, rfl, by simp [World.putObj], fun q _ hq => World.putObj_heap_other (fun e => hq e)⟩
  unfold MapT at ht
  unfold Oper.wp
  cases hfl : findL k l 0 with
  | none =>
    rw [hfl] at hf
    have e1 : (execOp a.eval ⟨none, .mapUpdate t x y u, ty, pos, af, none⟩).run P w = .ok .skip (w.putObj b (.map (es.push { key := enc k, val := v, born := ck }) (ck + 1))) := by
      simp [execOp, H.eval hx, H.eval hy, H.eval hu, Instr.mapUpdate, run_und ht, hg, hk.check, hf, hs]
    rw [e1]
    refine hK _ _ (kk _ _ (S.updSame hi (hkeeps _) ⟨_, _, World.putObj_heap_same (lt_of_heap hb), ?_⟩ (fun _ h => h)) (H.put_none _))
    unfold setL
    rw [hfl]
    simp [he]
  | some q =>
    obtain ⟨j, v0⟩ := q
    rw [hfl] at hf
    have hat := findL_at hfl
    have hej : (es[j]?).map (·.key) = some (enc k) := by
      have h1 : (es.toList.map (fun e => (e.key, e.val)))[j]? = (l.map (fun p => (enc p.1, p.2)))[j]? := by rw [he]
      rw [List.getElem?_map, List.getElem?_map, hat, Array.getElem?_toList] at h1
      cases h2 : es[j]? with
      | none => rw [h2] at h1; simp at h1
      | some e => rw [h2] at h1; simp at h1; simp [h1.1]
    have hst : (Instr.keyThatStays (enc k) (enc k)).run P w = .ok (enc k) w := by simp [Instr.keyThatStays, hk.bits k]
    have e1 : (execOp a.eval ⟨none, .mapUpdate t x y u, ty, pos, af, none⟩).run P w = .ok .skip (w.putObj b (.map (es.modify j fun e => { e with key := enc k, val := v }) ck)) := by
      simp [execOp, H.eval hx, H.eval hy, H.eval hu, Instr.mapUpdate, run_und ht, hg, hk.check, hf, hs, hej, hst]
    rw [e1]
    refine hK _ _ (kk _ _ (S.updSame hi (hkeeps _) ⟨_, _, World.putObj_heap_same (lt_of_heap hb), ?_⟩ (fun _ h => h)) (H.put_none _))
    unfold setL
    rw [hfl]
    rw [Array.toList_modify]
    refine modify_map _ _ _ _ es.toList l j he fun e p h1 h2 h3 => ?_
    rw [hat] at h3
    injection h3 with h3
    subst h3
    rfl
end
end Go.Proofs.Ytlmddkekeoebcaa
