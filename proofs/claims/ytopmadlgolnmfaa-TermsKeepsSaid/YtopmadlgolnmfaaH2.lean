/- Maps whose keys are short arrays of numbers. Keys of maps that are structs or arrays of numbers: how they are compared. Chapter 12: years, units, tasks, and how they lie in memory; which are right. Chapter 12: the life of a unit, day by day; sets of days as numbers. Blocks that are only read from now on, as one part; appending to a slice that is full. Chapter 12: the calendar of a year: what its maps answer; the jobs of a unit as the key of a map. Chapter 12: the machines that are out, as a set; the faults of a day. Chapter 12: the fault of a day, and the first one of a plan. Chapter 12: what is asked of one unit: its days, its certificates, the day on which it is out. Chapter 12: what is planned behind a day changes nothing up to it; the first day on which a unit is out. -/
import Derived.Test.YtopmadlgolnmfaaE3
import Derived.WideKeyEntry
import Derived.Test.YtopmadlgolnmfaaE5
import Derived.Test.YtopmadlgolnmfaaPt
import Derived.Test.YtopmadlgolnmfaaE2
import Derived.ArgAppend
import Derived.Test.YtopmadlgolnmfaaH1
namespace Go.Proofs.Ytopmadlgolnmfaa
set_option linter.unusedVariables false
set_option linter.unusedSimpArgs false
open Go.RowKit

def enc2 (k : Int × Int) : Value := .agg #[.int .i64 k.1, .int .i64 k.2]
section
variable {P : Program} {w : World} {kt e : TypeId}
theorem run_part1 (h1 : One P e) {cs : Array Value} {i : Nat} {v : Value} (h : cs[i]? = some v) : (part e cs i).run P w = .ok v w := by
  have : (isAgg e).run P w = .ok false w := by
    unfold One isRowB at h1
    unfold isAgg
    cases hu : P.underlying e with
    | none => rw [hu] at h1; simp at h1
    | some d => rw [hu] at h1; simp only [Sem.run_bind, run_und hu, Result.andThen_ok]; cases d <;> simp_all
  simp [part, this, h]
theorem run_sz (hs : Sz P e 1) : (sizeOf e).run P w = .ok 1 w := by
  unfold Sz at hs
  cases hi : P.info? e with
  | none => rw [hi] at hs; simp at hs
  | some i => rw [hi] at hs; simp at hs; simp [sizeOf, typeInfo, hi, hs]
theorem run_eqI (he : P.underlying e = some (.int .i64)) (d : Nat) (a b : Int) : (Op.equalIn (d + 1) e (.int .i64 a) (.int .i64 b)).run P w = .ok (a == b) w := by
  simp [Op.equalIn, run_und he]
theorem run_eq2 (hk : P.underlying kt = some (.array 2 e)) (he : P.underlying e = some (.int .i64)) (h1 : One P e) (hs : Sz P e 1) (d : Nat) (k k' : Int × Int) : (Op.equalIn (d + 2) kt (enc2 k) (enc2 k')).run P w = .ok (decide (k = k')) w := by
  obtain ⟨a, b⟩ := k
  obtain ⟨a', b'⟩ := k'
  have p0 : ∀ x y : Int, (part e #[.int .i64 x, .int .i64 y] 0).run P w = .ok (.int .i64 x) w := fun x y => run_part1 h1 rfl
  have p1 : ∀ x y : Int, (part e #[.int .i64 x, .int .i64 y] 1).run P w = .ok (.int .i64 y) w := fun x y => run_part1 h1 rfl
  unfold enc2
  rw [Op.equalIn]
  simp [run_und hk, run_sz hs, p0, p1, run_eqI he, Std.Legacy.Range.forIn_eq_forIn_range', Std.Legacy.Range.size, List.range']
  by_cases h : a = a' <;> by_cases h2 : b = b' <;> simp [h, h2]
theorem run_ckI (he : P.underlying e = some (.int .i64)) (m : Bool) (n : Nat) (a : Int) : (Instr.checkKey m (n + 1) e (.int .i64 a)).run P w = .ok () w := by
  rw [Instr.checkKey]
  simp only [Sem.run_bind, run_und he, Result.andThen_ok]
  rfl
theorem run_ck2 (hk : P.underlying kt = some (.array 2 e)) (he : P.underlying e = some (.int .i64)) (h1 : One P e) (hs : Sz P e 1) (m : Bool) (n : Nat) (k : Int × Int) : (Instr.checkKey m (n + 2) kt (enc2 k)).run P w = .ok () w := by
  have p0 : ∀ x y : Int, (part e #[.int .i64 x, .int .i64 y] 0).run P w = .ok (.int .i64 x) w := fun x y => run_part1 h1 rfl
  have p1 : ∀ x y : Int, (part e #[.int .i64 x, .int .i64 y] 1).run P w = .ok (.int .i64 y) w := fun x y => run_part1 h1 rfl
  unfold enc2
  rw [Instr.checkKey]
  simp [run_und hk, run_sz hs, p0, p1, run_ckI he, Std.Legacy.Range.forIn_eq_forIn_range', Std.Legacy.Range.size, List.range']
theorem run_ask {κ : Type} [DecidableEq κ] {enc : κ → Value} (heq : ∀ (k k' : κ) (w : World), (Op.equal kt (enc k) (enc k')).run P w = .ok (decide (k = k')) w) (k : κ) : ∀ (l : List (κ × Value)) (es : List MapEntry) (i : Nat), es.map (fun e => (e.key, e.val)) = l.map (fun p => (enc p.1, p.2)) → (Instr.findAsking kt (enc k) es i).run P w = .ok (findL k l i) w := by
  intro l
  induction l with
  | nil =>
    intro es i he
    have : es = [] := by simpa using he
    subst this
    rfl
  | cons p l ih =>
    intro es i he
    cases es with
    | nil => simp at he
    | cons x es =>
      simp only [List.map_cons, List.cons.injEq, Prod.mk.injEq] at he
      obtain ⟨⟨g1, g2⟩, g3⟩ := he
      rw [Instr.findAsking, g1]
      simp only [Sem.run_bind, heq, Result.andThen_ok, findL]
      by_cases hk : k = p.1
      · rw [if_pos hk, decide_eq_true hk, g2]; rfl
      · rw [if_neg hk, decide_eq_false hk]
        exact ih es (i + 1) g3
theorem keyOk_arr {κ : Type} [DecidableEq κ] {enc : κ → Value} {n : Nat} (hk : P.underlying kt = some (.array n e)) (heq : ∀ (k k' : κ) (w : World), (Op.equal kt (enc k) (enc k')).run P w = .ok (decide (k = k')) w)
    (hck : ∀ (m : Bool) (k : κ) (w : World), (Instr.checkKey m 10000 kt (enc k)).run P w = .ok () w) (hb : ∀ k : κ, Instr.sameBits 10000 (enc k) (enc k) = true) : KeyOk P kt enc := by
  refine ⟨fun l k es w he => ?_, hck, hb⟩
  rw [run_findKey_eq w (by rw [hk])]
  exact run_ask heq k l es 0 he
theorem keyOk2 (hk : P.underlying kt = some (.array 2 e)) (he : P.underlying e = some (.int .i64)) (h1 : One P e) (hs : Sz P e 1) : KeyOk P kt enc2 :=
  keyOk_arr hk (fun k k' w => by unfold Op.equal; rw [show Op.maxDepth = 9998 + 2 from rfl]; exact run_eq2 hk he h1 hs 9998 k k') (fun m k w => by rw [show (10000 : Nat) = 9998 + 2 from rfl]; exact run_ck2 hk he h1 hs m 9998 k) (fun k => by rw [show (10000 : Nat) = 9998 + 2 from rfl]; simp [enc2, Instr.sameBits])
end

theorem key_at {κ : Type} {enc : κ → Value} {es : List MapEntry} {l : List (κ × Value)} {j : Nat} {k : κ} {v : Value} (he : es.map (fun e => (e.key, e.val)) = l.map (fun p => (enc p.1, p.2))) (h : l[j]? = some (k, v)) : ∃ e, es[j]? = some e ∧ e.key = enc k ∧ e.val = v := by
  have h1 : (es.map (fun e => (e.key, e.val)))[j]? = (l.map (fun p => (enc p.1, p.2)))[j]? := by rw [he]
  rw [List.getElem?_map, List.getElem?_map, h] at h1
  cases h2 : es[j]? with
  | none => rw [h2] at h1; simp at h1
  | some e => rw [h2] at h1; simp at h1; exact ⟨e, rfl, h1.1, h1.2⟩
/-- A map of which it is known what it answers. -/
def mapK {κ : Type} [DecidableEq κ] (enc : κ → Value) (b : Nat) (Φ : (κ → Option Value) → Prop) : Mem where
  fp := fun k => k = b
  holds := fun w => ∃ (es : Array MapEntry) (ck : Nat) (l : List (κ × Value)), w.heap[b]? = some (.map es ck) ∧ es.toList.map (fun e => (e.key, e.val)) = l.map (fun p => (enc p.1, p.2)) ∧ (∀ x ∈ es.toList, x.born < ck) ∧ (es.toList.map MapEntry.born).Nodup ∧ Φ (getL l)
  stable := fun _ _ h ⟨es, ck, l, h1, h2⟩ => ⟨es, ck, l, (h b rfl).trans h1, h2⟩
section
variable {P : Program} {ops : Array Oper} {w w0 : World} {F0 : Nat → Prop} {R : List Mem} {Q : Exit → Act → World → Prop} {rest : List Oper} {N : FN} {L : List (Nat × Value)} {a : Act} {ty : TypeId} {pos : String} {af : Array Edge}
variable {κ : Type} [DecidableEq κ] {enc : κ → Value} {Φ Φ' : (κ → Option Value) → Prop}
theorem list_makeMapK {d t : Nat} (enc : κ → Value) (Φ : (κ → Option Value) → Prop) (hΦ : Φ (fun _ => none)) (H : Fr N L a) (hd : Nat.blt d N.n = true) (S : St w0 F0 R w)
    (k : ∀ b w' a', w0.heap.size ≤ b → St w0 F0 (mapK enc b Φ :: R) w' → Fr N ((d, .map (some b)) :: L) a' → wpList P ops Q rest a' w') :
    wpList P ops Q (⟨some d, .makeMap t none, ty, pos, af, none⟩ :: rest) a w := by
  refine wpList_plain rfl fun K hK => ?_
  unfold Oper.wp
  have e : (execOp a.eval ⟨some d, .makeMap t none, ty, pos, af, none⟩).run P w = .ok (.value (.map (some w.heap.size))) (w.alloc (.map #[] 0)) := by
    simp [execOp, Instr.makeMap, newObj, Sem.run]
  rw [e]
  refine hK _ _ (k w.heap.size _ _ S.size (S.new (Keeps.alloc w _ _) ⟨#[], 0, [], heap_alloc_new w _, rfl, fun x hx => by simp at hx, by simp, hΦ⟩ ?_) (H.put _ hd))
  intro q hq
  rw [show q = w.heap.size from hq]
  simp
theorem does_lookupK {x y : Operand} {t kt et b i : Nat} {d : Option Nat} {g : Option (Nat × Bool)} {z v : Value} {k : κ} (S : St w0 F0 R w) (hi : R[i]? = some (mapK enc b Φ)) (ht : MapT P t kt et) (hk : KeyOk P kt enc) (hz : ZeroV P et z) (hx : ev L x = some (.map (some b))) (hy : ev L y = some (enc k)) (hv : ∀ h, Φ h → (h k).getD z = v) :
    Does P L ⟨d, .lookup t x y false, ty, pos, af, g⟩ w v := fun ρ hρ => by
  obtain ⟨es, ck, l, hb, he, _, _, hΦ⟩ := S.holds hi
  have := run_lookup (k := k) ht hk hz (⟨es, ck, hb, he⟩ : (mapM enc b l).holds w) false
  simp [execOp, hρ _ _ hx, hρ _ _ hy, this, hv _ hΦ]
theorem does_lookupOkK {x y : Operand} {t kt et b i : Nat} {d : Option Nat} {g : Option (Nat × Bool)} {z v : Value} {s : Bool} {k : κ} (S : St w0 F0 R w) (hi : R[i]? = some (mapK enc b Φ)) (ht : MapT P t kt et) (hk : KeyOk P kt enc) (hz : ZeroV P et z) (hx : ev L x = some (.map (some b))) (hy : ev L y = some (enc k)) (hv : ∀ h, Φ h → (h k).getD z = v ∧ (h k).isSome = s) :
    Does P L ⟨d, .lookup t x y true, ty, pos, af, g⟩ w (.tuple #[v, .bool s]) := fun ρ hρ => by
  obtain ⟨es, ck, l, hb, he, _, _, hΦ⟩ := S.holds hi
  have := run_lookup (k := k) ht hk hz (⟨es, ck, hb, he⟩ : (mapM enc b l).holds w) true
  obtain ⟨h1, h2⟩ := hv _ hΦ
  simp [execOp, hρ _ _ hx, hρ _ _ hy, this, h1, h2]
theorem setL_new {l : List (κ × Value)} {k : κ} {v : Value} (h : findL k l 0 = none) : setL l k v = l ++ [(k, v)] := by unfold setL; rw [h]
theorem setL_old {l : List (κ × Value)} {k : κ} {v v0 : Value} {j : Nat} (h : findL k l 0 = some (j, v0)) : setL l k v = l.modify j fun p => (p.1, v) := by unfold setL; rw [h]
theorem getL_setF {l : List (κ × Value)} {k : κ} {v : Value} : getL (setL l k v) = fun k' => if k' = k then some v else getL l k' := funext fun k' => getL_set v k k' l
theorem born_modify (f : MapEntry → MapEntry) (hf : ∀ e, (f e).born = e.born) : ∀ (l : List MapEntry) (i : Nat), (l.modify i f).map MapEntry.born = l.map MapEntry.born := by
  intro l
  induction l with
  | nil => intro i; simp
  | cons e l ih =>
    intro i
    cases i with
    | zero => simp [hf]
    | succ i => simp [List.modify_succ_cons, ih]
theorem born_lt {l l' : List MapEntry} {ck : Nat} (h : l'.map MapEntry.born = l.map MapEntry.born) (hl : ∀ x ∈ l, x.born < ck) : ∀ x ∈ l', x.born < ck := fun x hx => by
  have h1 : x.born ∈ l'.map MapEntry.born := List.mem_map.2 ⟨x, hx, rfl⟩
  rw [h] at h1
  obtain ⟨y, hy, e⟩ := List.mem_map.1 h1
  have := hl y hy
  omega
theorem born_new {l : List MapEntry} {e : MapEntry} {ck : Nat} (he : e.born = ck) (hl : ∀ x ∈ l, x.born < ck) (hn : (l.map MapEntry.born).Nodup) : (∀ x ∈ l ++ [e], x.born < ck + 1) ∧ ((l ++ [e]).map MapEntry.born).Nodup := by
  constructor
  · intro x hx
    rcases List.mem_append.1 hx with hx | hx
    · have := hl x hx; omega
    · rw [List.mem_singleton.1 hx]; omega
  · rw [List.map_append, List.nodup_append]
    refine ⟨hn, by simp, fun p hp q hq e1 => ?_⟩
    obtain ⟨x, hx, rfl⟩ := List.mem_map.1 hp
    simp only [List.map_cons, List.map_nil, List.mem_singleton] at hq
    have := hl x hx
    omega
theorem list_mapUpdateK {x y u : Operand} {t kt et b i : Nat} {k : κ} {v : Value} (Φ' : (κ → Option Value) → Prop) (H : Fr N L a) (S : St w0 F0 R w) (hi : R[i]? = some (mapK enc b Φ)) (ht : MapT P t kt et) (hk : KeyOk P kt enc) (hx : ev L x = some (.map (some b))) (hy : ev L y = some (enc k)) (hu : ev L u = some v)
    (hΦ' : ∀ h, Φ h → Φ' (fun k' => if k' = k then some v else h k'))
    (kk : ∀ w' a', St w0 F0 (R.set i (mapK enc b Φ')) w' → Fr N L a' → wpList P ops Q rest a' w') :
    wpList P ops Q (⟨none, .mapUpdate t x y u, ty, pos, af, none⟩ :: rest) a w := by
  refine wpList_plain rfl fun K hK => ?_
  obtain ⟨es, ck, l, hb, he, hlt, hnd, hΦ⟩ := S.holds hi
  have hf := hk.find l k es.toList w he
  have hg : (getObj b).run P w = .ok (.map es ck) w := by simp [getObj, Sem.run, hb]
  have hs : ∀ o, (setObj b o).run P w = .ok () (w.putObj b o) := fun o => by simp [setObj, Sem.run, hb, World.putObj]
  have hkeeps : ∀ o, Keeps w (w.putObj b o) (fun k => k = b) := fun o => ⟨rfl, rfl, rfl, by simp [World.putObj], fun q _ hq => World.putObj_heap_other (fun e => hq e)⟩
  have hΦ2 : Φ' (getL (setL l k v)) := by rw [getL_setF]; exact hΦ' _ hΦ
  unfold MapT at ht
  unfold Oper.wp
  cases hfl : findL k l 0 with
  | none =>
    rw [hfl] at hf
    have e1 : (execOp a.eval ⟨none, .mapUpdate t x y u, ty, pos, af, none⟩).run P w = .ok .skip (w.putObj b (.map (es.push { key := enc k, val := v, born := ck }) (ck + 1))) := by
      simp [execOp, H.eval hx, H.eval hy, H.eval hu, Instr.mapUpdate, run_und ht, hg, hk.check, hf, hs]
    rw [e1]
    have hb2 := born_new (e := { key := enc k, val := v, born := ck }) rfl hlt hnd
    refine hK _ _ (kk _ _ (S.updSame hi (hkeeps _) ⟨_, _, setL l k v, World.putObj_heap_same (lt_of_heap hb), ?_, ?_, ?_, hΦ2⟩ (fun _ h => h)) (H.put_none _))
    · rw [setL_new hfl]; simp [he]
    · rw [Array.toList_push]; exact hb2.1
    · rw [Array.toList_push]; exact hb2.2
  | some q =>
    obtain ⟨j, v0⟩ := q
    rw [hfl] at hf
    have hat := findL_at hfl
    obtain ⟨e0, h1, h2, h3⟩ := key_at he hat
    have hej : (es[j]?).map (·.key) = some (enc k) := by rw [← Array.getElem?_toList, h1, ← h2]; rfl
    have hst : (Instr.keyThatStays (enc k) (enc k)).run P w = .ok (enc k) w := by simp [Instr.keyThatStays, hk.bits k]
    have e1 : (execOp a.eval ⟨none, .mapUpdate t x y u, ty, pos, af, none⟩).run P w = .ok .skip (w.putObj b (.map (es.modify j fun e => { e with key := enc k, val := v }) ck)) := by
      simp [execOp, H.eval hx, H.eval hy, H.eval hu, Instr.mapUpdate, run_und ht, hg, hk.check, hf, hs, hej, hst]
    rw [e1]
    have hbm := born_modify (fun e => { e with key := enc k, val := v }) (fun _ => rfl) es.toList j
    refine hK _ _ (kk _ _ (S.updSame hi (hkeeps _) ⟨_, _, setL l k v, World.putObj_heap_same (lt_of_heap hb), ?_, ?_, ?_, hΦ2⟩ (fun _ h => h)) (H.put_none _))
    · rw [setL_old hfl, Array.toList_modify]
      refine modify_map _ _ _ _ es.toList l j he fun e p g1 g2 g3 => ?_
      rw [hat] at g3
      injection g3 with g3
      subst g3
      rfl
    · rw [Array.toList_modify]; exact born_lt hbm hlt
    · rw [Array.toList_modify, hbm]; exact hnd
end
end Go.Proofs.Ytopmadlgolnmfaa

namespace Go.Proofs.Ytopmadlgolnmfaa
set_option linter.unusedVariables false
set_option linter.unusedSimpArgs false
open Go.RowKit

/-- A list of numbers as the value of a struct or an array. -/
def ints (xs : List Int) : Value := .agg (xs.map fun x => Value.int .i64 x).toArray
structure IntsK (P : Program) (t : TypeId) (n D : Nat) : Prop where
  agg : Agg P t
  sz : Sz P t n
  eq : ∀ (d : Nat) (xs ys : List Int) (w : World), xs.length = n → ys.length = n → (Op.equalIn (d + D) t (ints xs) (ints ys)).run P w = .ok (decide (xs = ys)) w
  ck : ∀ (m : Bool) (d : Nat) (xs : List Int) (w : World), xs.length = n → (Instr.checkKey m (d + D) t (ints xs)).run P w = .ok () w
section
variable {P : Program} {w : World} {kt e : TypeId} {n D : Nat}
theorem run_partA {n : Nat} (ha : Agg P e) (hs : Sz P e n) (cs : Array Value) (i : Nat) : (part e cs i).run P w = .ok (.agg (cs.extract i (i + n))) w := by
  have h1 : (isAgg e).run P w = .ok true w := by
    unfold Agg isRowB at ha
    unfold isAgg
    cases hu : P.underlying e with
    | none => rw [hu] at ha; simp at ha
    | some d => rw [hu] at ha; simp only [Sem.run_bind, run_und hu, Result.andThen_ok]; cases d <;> simp_all
  have h2 : (sizeOf e).run P w = .ok n w := by
    unfold Sz at hs
    cases hi : P.info? e with
    | none => rw [hi] at hs; simp at hs
    | some i => rw [hi] at hs; simp at hs; simp [sizeOf, typeInfo, hi, hs]
  simp [part, h1, h2]
theorem run_sizeN {n : Nat} (hs : Sz P e n) : (sizeOf e).run P w = .ok n w := by
  unfold Sz at hs
  cases hi : P.info? e with
  | none => rw [hi] at hs; simp at hs
  | some i => rw [hi] at hs; simp at hs; simp [sizeOf, typeInfo, hi, hs]
theorem ints_cut (xs : List Int) (i n : Nat) : ((xs.map fun x => Value.int .i64 x).toArray).extract i (i + n) = (((xs.drop i).take n).map fun x => Value.int .i64 x).toArray := by
  rw [List.extract_toArray, List.extract_eq_take_drop, Nat.add_sub_cancel_left, List.map_take, List.map_drop]
theorem ints_at {xs : List Int} {i : Nat} (h : i < xs.length) : ((xs.map fun x => Value.int .i64 x).toArray)[i]? = some (.int .i64 (xs.getD i 0)) := by
  simp [List.getD_eq_getElem?_getD, h]
/-- One step of a comparison of parts. -/
theorem run_each {α : Type} {f : α → Sem Bool} {b : α → Bool} {w : World} (l : List α) (h : ∀ i ∈ l, (f i).run P w = .ok (b i) w) :
    (do let r ← forIn (m := Sem) l ((none, ()) : Option Bool × PUnit) fun i r => do
          let x ← f i
          if !x then pure (ForInStep.done (some false, ())) else pure (ForInStep.yield (none, ()))
        match r.fst with
        | some a => pure a
        | none => pure true : Sem Bool).run P w = .ok (l.all b) w := by
  have key : ∀ l : List α, (∀ i ∈ l, (f i).run P w = .ok (b i) w) → (forIn (m := Sem) l ((none, ()) : Option Bool × PUnit) fun i r => do
          let x ← f i
          if !x then pure (ForInStep.done (some false, ())) else pure (ForInStep.yield (none, ()))).run P w = .ok ((if l.all b = true then none else some false, ())) w := by
    intro l
    induction l with
    | nil => intro _; simp
    | cons a l ih =>
      intro h
      have h1 := h a (by simp)
      have h2 := ih fun i hi => h i (by simp [hi])
      rw [List.forIn_cons]
      cases hb : b a with
      | true =>
        rw [hb] at h1
        have e : (a :: l).all b = l.all b := by simp [hb]
        rw [e]
        simp only [Sem.run_bind, h1, Result.andThen_ok]
        simpa using h2
      | false =>
        rw [hb] at h1
        simp [h1, hb]
  simp only [Sem.run_bind, key l h, Result.andThen_ok]
  by_cases hl : l.all b = true
  · simp [hl]
  · simp [hl]
theorem run_eachU {α : Type} {f : α → Sem Unit} {w : World} (l : List α) (h : ∀ i ∈ l, (f i).run P w = .ok () w) :
    (forIn (m := Sem) l () fun i r => do f i; pure (ForInStep.yield ())).run P w = .ok () w := by
  induction l with
  | nil => simp
  | cons a l ih =>
    have h1 := h a (by simp)
    have h2 := ih fun i hi => h i (by simp [hi])
    rw [List.forIn_cons]
    simp only [Sem.run_bind, h1, Result.andThen_ok]
    simpa using h2
def seg (xs : List Int) (off n : Nat) : List Int := (xs.drop off).take n
theorem seg_len {xs : List Int} {off n : Nat} (h : off + n ≤ xs.length) : (seg xs off n).length = n := by simp [seg]; omega
/-- A part of a struct or an array that is made of numbers. -/
structure PartK (P : Program) (t : TypeId) (n D : Nat) : Prop where
  eq : ∀ (d : Nat) (xs ys : List Int) (off : Nat) (w : World), off + n ≤ xs.length → off + n ≤ ys.length →
    (do let a ← part t (xs.map fun x => Value.int .i64 x).toArray off; let b ← part t (ys.map fun x => Value.int .i64 x).toArray off; Op.equalIn (d + D) t a b : Sem Bool).run P w = .ok (decide (seg xs off n = seg ys off n)) w
  ck : ∀ (m : Bool) (d : Nat) (xs : List Int) (off : Nat) (w : World), off + n ≤ xs.length → (do let a ← part t (xs.map fun x => Value.int .i64 x).toArray off; Instr.checkKey m (d + D) t a : Sem Unit).run P w = .ok () w
theorem PartK.of (h : IntsK P kt n D) : PartK P kt n D := by
  refine ⟨fun d xs ys off w hx hy => ?_, fun m d xs off w hx => ?_⟩
  · simp only [Sem.run_bind, run_partA h.agg h.sz, Result.andThen_ok, ints_cut]
    exact h.eq d _ _ w (seg_len hx) (seg_len hy)
  · simp only [Sem.run_bind, run_partA h.agg h.sz, Result.andThen_ok, ints_cut]
    exact h.ck m d _ w (seg_len hx)
theorem seg_one {xs : List Int} {i : Nat} (h : i < xs.length) : seg xs i 1 = [xs.getD i 0] := by
  rw [seg, List.drop_eq_getElem_cons h, List.take_succ_cons, List.take_zero, List.getD_eq_getElem?_getD, List.getElem?_eq_getElem h]
  rfl
theorem PartK.int (he : P.underlying e = some (.int .i64)) (h1 : One P e) : PartK P e 1 1 := by
  have hp : ∀ (zs : List Int) (i : Nat), i < zs.length → ∀ w, (part e (zs.map fun x => Value.int .i64 x).toArray i).run P w = .ok (.int .i64 (zs.getD i 0)) w := fun zs i hi w => run_part1 h1 (ints_at hi)
  refine ⟨fun d xs ys off w hx hy => ?_, fun m d xs off w hx => ?_⟩
  · simp only [Sem.run_bind, hp xs off (by omega), hp ys off (by omega), Result.andThen_ok, run_eqI he]
    rw [seg_one (by omega), seg_one (by omega)]
    rw [show decide ([xs.getD off 0] = [ys.getD off 0]) = decide (xs.getD off 0 = ys.getD off 0) by simp]
    rfl
  · simp only [Sem.run_bind, hp xs off (by omega), Result.andThen_ok, run_ckI he]
theorem PartK.mono {n D : Nat} (h : PartK P e n D) : PartK P e n (D + 1) :=
  ⟨fun d xs ys off w hx hy => by have := h.eq (d + 1) xs ys off w hx hy; rw [Nat.add_assoc, Nat.add_comm 1 D] at this; exact this, fun m d xs off w hx => by have := h.ck m (d + 1) xs off w hx; rw [Nat.add_assoc, Nat.add_comm 1 D] at this; exact this⟩
theorem PartK.int2 (he : P.underlying e = some (.int .i64)) (h1 : One P e) : PartK P e 1 2 := (PartK.int he h1).mono
theorem seg_app {xs ys : List Int} {off n m : Nat} (hx : off + n + m ≤ xs.length) (hy : off + n + m ≤ ys.length) : seg xs off (n + m) = seg ys off (n + m) ↔ seg xs off n = seg ys off n ∧ seg xs (off + n) m = seg ys (off + n) m := by
  have e : ∀ zs : List Int, seg zs off (n + m) = seg zs off n ++ seg zs (off + n) m := fun zs => by
    unfold seg; rw [List.take_add, List.drop_drop]
  rw [e, e]
  exact ⟨fun h => List.append_inj h (by rw [seg_len (by omega), seg_len (by omega)]), fun h => by rw [h.1, h.2]⟩
theorem seg_all {xs : List Int} {n : Nat} (h : xs.length = n) : seg xs 0 n = xs := by unfold seg; rw [List.drop_zero, List.take_of_length_le (by omega)]
theorem chunks {xs ys : List Int} {m : Nat} : ∀ len, len * m ≤ xs.length → len * m ≤ ys.length → ((List.range len).all fun i => decide (seg xs (i * m) m = seg ys (i * m) m)) = decide (seg xs 0 (len * m) = seg ys 0 (len * m)) := by
  intro len
  induction len with
  | zero => intro _ _; simp [seg]
  | succ len ih =>
    intro hx hy
    rw [Nat.add_mul] at hx hy
    rw [List.range_succ, List.all_append, ih (by omega) (by omega), Bool.eq_iff_iff, Nat.add_mul, Nat.one_mul, decide_eq_true_eq, seg_app (by omega) (by omega), Nat.zero_add]
    simp
/-- An array. -/
theorem ints_arr {len m D : Nat} (hk : P.underlying kt = some (.array len e)) (hs : Sz P kt (len * m)) (he : PartK P e m D) (hse : Sz P e m) : IntsK P kt (len * m) (D + 1) := by
  refine ⟨by unfold Agg isRowB; rw [hk], hs, fun d xs ys w hx hy => ?_, fun b d xs w hx => ?_⟩
  · have hq : ∀ i ∈ List.range len, (do let a ← part e (xs.map fun x => Value.int .i64 x).toArray (i * m); let b ← part e (ys.map fun x => Value.int .i64 x).toArray (i * m); Op.equalIn (d + D) e a b : Sem Bool).run P w = .ok (decide (seg xs (i * m) m = seg ys (i * m) m)) w := fun i hi => by
      have hi' := List.mem_range.1 hi
      have : (i + 1) * m ≤ len * m := Nat.mul_le_mul_right _ (by omega)
      rw [Nat.add_mul] at this
      exact he.eq d xs ys (i * m) w (by omega) (by omega)
    have hr := run_each (P := P) (w := w) (List.range len) hq
    rw [chunks len (by omega) (by omega), seg_all hx, seg_all hy] at hr
    unfold ints
    rw [show d + (D + 1) = (d + D) + 1 from rfl, Op.equalIn]
    simp only [Sem.run_bind, run_und hk, run_sizeN hse, Result.andThen_ok, Std.Legacy.Range.forIn_eq_forIn_range', Std.Legacy.Range.size]
    rw [List.range_eq_range'] at hr
    simp at hr ⊢
    rw [← hr]
    congr 1
    funext a w'
    cases a with | mk x y => cases x <;> rfl
  · have hz : (sizeOf e).run P w = .ok m w := run_sizeN hse
    have hq : ∀ i ∈ List.range len, (do let s ← sizeOf e; let a ← part e (xs.map fun x => Value.int .i64 x).toArray (i * s); Instr.checkKey b (d + D) e a : Sem Unit).run P w = .ok () w := fun i hi => by
      have hi' := List.mem_range.1 hi
      have : (i + 1) * m ≤ len * m := Nat.mul_le_mul_right _ (by omega)
      rw [Nat.add_mul] at this
      have h9 := he.ck b d xs (i * m) w (by omega)
      rw [Sem.run_bind, hz, Result.andThen_ok]
      exact h9
    have hr := run_eachU (P := P) (w := w) (List.range len) hq
    unfold ints
    rw [show d + (D + 1) = (d + D) + 1 from rfl, Instr.checkKey]
    simp only [Sem.run_bind, run_und hk, Result.andThen_ok, Std.Legacy.Range.forIn_eq_forIn_range', Std.Legacy.Range.size]
    rw [List.range_eq_range'] at hr
    simp at hr ⊢
    exact congrArg (fun r : Result Unit => r.andThen fun _ w' => Result.ok () w') hr
/-- The fields of a struct, from an offset to an end. -/
inductive FieldsK (P : Program) (D : Nat) : Nat → List Field → Nat → Prop
  | nil (off : Nat) : FieldsK P D off [] off
  | cons {off n E : Nat} {f : Field} {fs : List Field} (h1 : f.name ≠ "_") (h2 : f.offset = off) (h3 : PartK P f.type n D) (h4 : FieldsK P D (off + n) fs E) : FieldsK P D off (f :: fs) E
theorem FieldsK.le {fs : List Field} {off E : Nat} (h : FieldsK P D off fs E) : off ≤ E := by
  induction h with
  | nil => exact Nat.le_refl _
  | cons _ _ _ _ ih => omega
theorem FieldsK.eqs {fs : List Field} {off E : Nat} (h : FieldsK P D off fs E) (xs ys : List Int) (d : Nat) (hx : E ≤ xs.length) (hy : E ≤ ys.length) :
    (forIn (m := Sem) fs ((none, ()) : Option Bool × PUnit) fun f r => if f.name ≠ "_" then do
          let c ← (do let a ← part f.type (xs.map fun x => Value.int .i64 x).toArray f.offset; let b ← part f.type (ys.map fun x => Value.int .i64 x).toArray f.offset; Op.equalIn (d + D) f.type a b : Sem Bool)
          if !c then pure (ForInStep.done (some false, ())) else pure (ForInStep.yield (none, ()))
        else pure (ForInStep.yield (none, ()))).run P w = .ok ((if seg xs off (E - off) = seg ys off (E - off) then none else some false, ())) w := by
  induction h with
  | nil off => simp [seg]
  | @cons off n E f fs h1 h2 h3 h4 ih =>
    have hle := h4.le
    have h5 := h3.eq d xs ys off w (by omega) (by omega)
    have h6 := ih hx hy
    have h7 := seg_app (xs := xs) (ys := ys) (off := off) (n := n) (m := E - (off + n)) (by omega) (by omega)
    rw [show n + (E - (off + n)) = E - off by omega] at h7
    rw [List.forIn_cons, if_pos h1, h2]
    by_cases hs : seg xs off n = seg ys off n
    · rw [decide_eq_true hs] at h5
      rw [Sem.run_bind, Sem.run_bind, h5, Result.andThen_ok]
      simp only [Bool.not_true, Bool.false_eq_true, if_false, Sem.run_pure, Result.andThen_ok]
      rw [h6]
      by_cases ht : seg xs (off + n) (E - (off + n)) = seg ys (off + n) (E - (off + n))
      · rw [if_pos ht, if_pos (h7.2 ⟨hs, ht⟩)]
      · rw [if_neg ht, if_neg (fun h => ht (h7.1 h).2)]
    · rw [decide_eq_false hs] at h5
      rw [Sem.run_bind, Sem.run_bind, h5, Result.andThen_ok]
      simp only [Bool.not_false, if_true, Sem.run_pure, Result.andThen_ok]
      rw [if_neg (fun h => hs (h7.1 h).1)]
theorem FieldsK.cks {fs : List Field} {off E : Nat} (h : FieldsK P D off fs E) (xs : List Int) (m : Bool) (d : Nat) (hx : E ≤ xs.length) :
    (forIn (m := Sem) fs () fun f r => if f.name ≠ "_" then do
          (do let a ← part f.type (xs.map fun x => Value.int .i64 x).toArray f.offset; Instr.checkKey m (d + D) f.type a : Sem Unit)
          pure (ForInStep.yield ())
        else pure (ForInStep.yield ())).run P w = .ok () w := by
  induction h with
  | nil off => simp
  | @cons off n E f fs h1 h2 h3 h4 ih =>
    have hle := h4.le
    have h5 := h3.ck m d xs off w (by omega)
    have h6 := ih hx
    rw [List.forIn_cons, if_pos h1, h2]
    rw [Sem.run_bind, Sem.run_bind, h5, Result.andThen_ok]
    simp only [Sem.run_pure, Result.andThen_ok]
    exact h6
/-- A struct. -/
theorem ints_str {fs : Array Field} {n : Nat} (hk : P.underlying kt = some (.struct fs)) (hs : Sz P kt n) (hf : FieldsK P D 0 fs.toList n) (hst : P.stoodInHeld kt = false) : IntsK P kt n (D + 1) := by
  refine ⟨by unfold Agg isRowB; rw [hk], hs, fun d xs ys w hx hy => ?_, fun b d xs w hx => ?_⟩
  · have hr := hf.eqs (w := w) xs ys d (by omega) (by omega)
    rw [Nat.sub_zero, seg_all hx, seg_all hy] at hr
    have hpg : (program : Sem Program).run P w = .ok P w := rfl
    unfold ints
    rw [show d + (D + 1) = (d + D) + 1 from rfl, Op.equalIn]
    simp only [Sem.run_bind, run_und hk, hpg, hst, Result.andThen_ok]
    simp at hr ⊢
    have hr2 := congrArg (fun r : Result (Option Bool × PUnit) => r.andThen fun a w' => Sem.run P (match a.fst with | some r => pure r | none => pure true) w') hr
    refine Eq.trans ?_ (hr2.trans (by by_cases h : xs = ys <;> simp [h]))
    refine congrArg _ ?_
    funext a w'
    cases a with | mk x y => cases x <;> rfl
  · have hr := hf.cks (w := w) xs b d (by omega)
    unfold ints
    rw [show d + (D + 1) = (d + D) + 1 from rfl, Instr.checkKey]
    simp only [Sem.run_bind, run_und hk, Result.andThen_ok]
    simp at hr ⊢
    exact congrArg (fun r : Result Unit => r.andThen fun _ w' => Result.ok () w') hr
/-- Keys of n numbers. -/
def KeyN (n : Nat) : Type := { l : List Int // l.length = n }
instance {n : Nat} : DecidableEq (KeyN n) := fun a b => if h : a.1 = b.1 then .isTrue (Subtype.ext h) else .isFalse fun e => h (congrArg Subtype.val e)
def encN {n : Nat} (k : KeyN n) : Value := ints k.1
theorem bits_ints (xs : List Int) (d : Nat) : Instr.sameBits (d + 1) (ints xs) (ints xs) = true := by
  unfold ints
  rw [Instr.sameBits]
  simp only [beq_self_eq_true, Bool.true_and]
  rw [List.all_eq_true]
  rintro ⟨x, y⟩ h
  rw [List.zip_eq_zipWith] at h
  simp only [List.zipWith_self, List.mem_map] at h
  obtain ⟨v, hv, e⟩ := h
  cases e
  have hv' : x ∈ xs.map fun x => Value.int .i64 x := by simpa using hv
  obtain ⟨q, _, rfl⟩ := List.mem_map.1 hv'
  simp [Instr.sameBits]
theorem keyOk_N {n : Nat} (h : IntsK P kt n D) (hD : D ≤ 100) (hwide : (match P.underlying kt with | some (.array _ _) | some (.struct _) => true | _ => false) = true) : KeyOk P kt (encN (n := n)) := by
  have heq : ∀ (k k' : KeyN n) (w : World), (Op.equal kt (encN k) (encN k')).run P w = .ok (decide (k = k')) w := fun k k' w => by
    have := h.eq (10000 - D) k.1 k'.1 w k.2 k'.2
    rw [Nat.sub_add_cancel (by omega)] at this
    unfold Op.equal Op.maxDepth encN
    rw [this]
    congr 1
    exact decide_eq_decide.2 ⟨fun h => Subtype.ext h, fun h => congrArg Subtype.val h⟩
  refine ⟨fun l k es w he => ?_, fun m k w => ?_, fun k => bits_ints _ _⟩
  · rw [run_findKey_eq w hwide]
    exact run_ask heq k l es 0 he
  · have := h.ck m (10000 - D) k.1 w k.2
    rw [Nat.sub_add_cancel (by omega)] at this
    exact this
end
end Go.Proofs.Ytopmadlgolnmfaa

namespace Go.Proofs.Ytopmadlgolnmfaa
set_option linter.unusedVariables false
set_option linter.unusedSimpArgs false
open Go.RowKit

/-- A unit, with where its rates and uses lie. -/
structure Unt where
  mach : Int
  every : Int
  seen : Int
  rates : List (Int × Int)
  RA : Option Addr
  rc : Nat
  worn : Int
  turns : Int
  age : Int
  uses : List Use
  UA : Option Addr
  uc : Nat
  old : Int
  tn : Int
  cl : Int
  kind : Int
def Unt.zero : Unt := ⟨0, 0, 0, [], none, 0, 0, 0, 0, [], none, 0, 0, 0, 0, 0⟩
def Unt.cell (u : Unt) : Nat → Value
  | 0 => .int .i64 u.mach
  | 1 => .int .i64 u.every
  | 2 => .int .i64 u.seen
  | 3 => .slice u.RA u.rates.length u.rc
  | 4 => .int .i64 u.worn
  | 5 => .int .i64 u.turns
  | 6 => .int .i64 u.age
  | 7 => .slice u.UA u.uses.length u.uc
  | 8 => .int .i64 u.old
  | 9 => .int .i64 u.tn
  | 10 => .int .i64 u.cl
  | _ => .int .i64 u.kind
def vcell (l : List Unt) (k j : Nat) : Value := (l.getD k Unt.zero).cell j
def Unt.part (u : Unt) : Part := ⟨u.rates, u.worn, u.turns, u.age⟩
/-- The same unit, wherever it lies. -/
def Unt.same (u v : Unt) : Prop := v = { u with RA := v.RA, rc := v.rc, UA := v.UA, uc := v.uc }
structure Spr where
  day : Int
  kind : Int
  many : Int
def Spr.zero : Spr := ⟨0, 0, 0⟩
def Spr.cell (s : Spr) : Nat → Value
  | 0 => .int .i64 s.day
  | 1 => .int .i64 s.kind
  | _ => .int .i64 s.many
def spcell (l : List Spr) (k j : Nat) : Value := (l.getD k Spr.zero).cell j
structure Tsk where
  day : Int
  unit : Int
  kind : Int
deriving instance DecidableEq for Tsk
def Tsk.zero : Tsk := ⟨0, 0, 0⟩
def Tsk.cell (t : Tsk) : Nat → Value
  | 0 => .int .i64 t.day
  | 1 => .int .i64 t.unit
  | _ => .int .i64 t.kind
def tkcell (l : List Tsk) (k j : Nat) : Value := (l.getD k Tsk.zero).cell j
/-- A year, with where its lists lie. -/
structure Yr where
  days : Int
  pl : Int
  ps : List Psg
  PA : Option Addr
  pc : Nat
  xs : List Int
  XA : Option Addr
  xc : Nat
  pe : List Int
  BA : Option Addr
  bc : Nat
  limit : Int
  help : Bool
  prs : List Prm
  QA : Option Addr
  qc : Nat
  us : List Unt
  VA : Option Addr
  vc : Nat
  crew : Int
  sps : List Spr
  SA : Option Addr
  sc : Nat
def Yr.cells (y : Yr) : List Value := [.int .i64 y.days, .int .i64 y.pl, .slice y.PA y.ps.length y.pc, .slice y.XA y.xs.length y.xc, .slice y.BA y.pe.length y.bc, .int .i64 y.limit, .bool y.help, .slice y.QA y.prs.length y.qc, .slice y.VA y.us.length y.vc, .int .i64 y.crew, .slice y.SA y.sps.length y.sc]
abbrev Yr.st (y : Yr) : Value := .agg [.int .i64 y.pl, .slice y.PA y.ps.length y.pc, .slice y.XA y.xs.length y.xc].toArray
abbrev Yr.u (y : Yr) (k : Nat) : Unt := y.us.getD k Unt.zero
structure YIn (w : World) (F : Nat → Prop) (y : Yr) : Prop where
  ps : InS w F 7 y.PA y.ps.length (pcell y.ps)
  xs : InS w F 1 y.XA y.xs.length (icl y.xs)
  pe : InS w F 1 y.BA y.pe.length (icl y.pe)
  prs : InS w F 5 y.QA y.prs.length (prcell y.prs)
  us : InS w F 12 y.VA y.us.length (vcell y.us)
  sps : InS w F 3 y.SA y.sps.length (spcell y.sps)
  rt : ∀ k, k < y.us.length → InS w F 2 (y.us.getD k Unt.zero).RA (y.us.getD k Unt.zero).rates.length (scell (y.us.getD k Unt.zero).rates)
  ul : ∀ k, k < y.us.length → InS w F 6 (y.us.getD k Unt.zero).UA (y.us.getD k Unt.zero).uses.length (ucell (y.us.getD k Unt.zero).uses)
/-- What lists take. -/
structure YBd (y : Yr) : Prop where
  ps : y.ps.length * 56 ≤ 140737488351232
  xs : y.xs.length * 8 ≤ 140737488351232
  pe : y.pe.length * 8 ≤ 140737488351232
  prs : y.prs.length * 40 ≤ 140737488351232
  us : y.us.length * 120 ≤ 140737488351232
  sps : y.sps.length * 24 ≤ 140737488351232
  rt : ∀ k, k < y.us.length → (y.us.getD k Unt.zero).rates.length * 16 ≤ 140737488351232
  ul : ∀ k, k < y.us.length → (y.us.getD k Unt.zero).uses.length * 48 ≤ 140737488351232
  cap : ∀ k, k < y.us.length → (y.us.getD k Unt.zero).uses.length ≤ (y.us.getD k Unt.zero).uc
section
variable {w w0 : World} {F F0 : Nat → Prop} {R : List Mem} {y : Yr}
theorem YIn.now (h : YIn w0 F0 y) (S : St w0 F0 R w) : YIn w noF y :=
  ⟨h.ps.now S, h.xs.now S, h.pe.now S, h.prs.now S, h.us.now S, h.sps.now S, fun k hk => (h.rt k hk).now S, fun k hk => (h.ul k hk).now S⟩
theorem YBd.psn (h : YBd y) : y.ps.length ≤ 9223372036854775807 := by have := h.ps; omega
theorem YBd.xsn (h : YBd y) : y.xs.length ≤ 9223372036854775807 := by have := h.xs; omega
theorem YBd.pen (h : YBd y) : y.pe.length ≤ 9223372036854775807 := by have := h.pe; omega
theorem YBd.prn (h : YBd y) : y.prs.length ≤ 9223372036854775807 := by have := h.prs; omega
theorem YBd.usn (h : YBd y) : y.us.length ≤ 9223372036854775807 := by have := h.us; omega
theorem YBd.spn (h : YBd y) : y.sps.length ≤ 9223372036854775807 := by have := h.sps; omega
theorem YBd.rtn (h : YBd y) {k : Nat} (hk : k < y.us.length) : (y.us.getD k Unt.zero).rates.length ≤ 9223372036854775807 := by have := h.rt k hk; omega
theorem YBd.uln (h : YBd y) {k : Nat} (hk : k < y.us.length) : (y.us.getD k Unt.zero).uses.length ≤ 9223372036854775807 := by have := h.ul k hk; omega
end

/-! ## which years are right -/
def untI (u : Unt) : Prop := (1 ≤ u.every ∧ u.every ≤ 20) ∧ (-20 ≤ u.seen ∧ u.seen ≤ 0) ∧ (0 ≤ u.kind ∧ u.kind ≤ 3) ∧ u.uses.length ≤ 20 ∧ (prevD u.uses u.uses.length ≤ u.old ∧ u.old ≤ 99980) ∧ (0 ≤ u.tn ∧ u.tn ≤ 1000000) ∧ (0 ≤ u.cl ∧ u.cl ≤ (u.rates.length : Int) - 1)
instance (u : Unt) : Decidable (untI u) := by unfold untI; exact inferInstance
/-- A machine of the first n passages that no unit before number i has. -/
def freeN (ps : List Psg) (us : List Unt) (n i : Nat) (m : Int) : Bool := !allN (fun k => !(decide (0 ≤ (ps.getD k Psg.zero).mach) && decide ((ps.getD k Psg.zero).mach = m))) n && allN (fun k => !decide ((us.getD k Unt.zero).mach = m)) i
def freeM (ps : List Psg) (us : List Unt) (i : Nat) (m : Int) : Bool := freeN ps us ps.length i m
noncomputable def untU (ps : List Psg) (us : List Unt) (i : Nat) (u : Unt) : Bool := freeM ps us i u.mach && (decide (untI u) && decide (wearE u.part u.uses = 0))
noncomputable def untB (ps : List Psg) (us : List Unt) (i : Nat) : Bool := untU ps us i (us.getD i Unt.zero)
def sprB (days : Int) (s : Spr) : Bool := decide ((0 ≤ s.day ∧ s.day ≤ days - 1) ∧ (0 ≤ s.kind ∧ s.kind ≤ 3) ∧ (1 ≤ s.many ∧ s.many ≤ 8))
def yrI (y : Yr) : Prop := (1 ≤ y.days ∧ y.days ≤ 20) ∧ ((y.pe.length : Int) = y.pl ∧ ∀ k, k < y.pe.length → 0 ≤ y.pe.getD k 0 ∧ y.pe.getD k 0 ≤ 1000) ∧ (0 ≤ y.limit ∧ y.limit ≤ 60) ∧ (0 ≤ y.crew ∧ y.crew ≤ 8) ∧ y.sps.length ≤ 20 ∧ ∀ k, k < y.sps.length → sprB y.days (y.sps.getD k Spr.zero) = true
open Classical in
/-- The error of a year. -/
noncomputable def yearE (y : Yr) : Int := if keptE y.pl y.ps y.xs [] y.prs ≠ 0 then keptE y.pl y.ps y.xs [] y.prs else if ¬ yrI y then 120 else if 6 < y.us.length then 2 else if allN (untB y.ps y.us) y.us.length = true then 0 else 121
def befB (a b : Tsk) : Bool := if a.day ≠ b.day then decide (a.day < b.day) else if a.unit ≠ b.unit then decide (a.unit < b.unit) else decide (a.kind < b.kind)
def tskB (y : Yr) (l : List Tsk) (i : Nat) : Bool := decide ((0 ≤ (l.getD i Tsk.zero).day ∧ (l.getD i Tsk.zero).day ≤ y.days - 1) ∧ (0 ≤ (l.getD i Tsk.zero).unit ∧ (l.getD i Tsk.zero).unit ≤ (y.us.length : Int) - 1) ∧ (1 ≤ (l.getD i Tsk.zero).kind ∧ (l.getD i Tsk.zero).kind ≤ 2)) && (decide (i = 0) || befB (l.getD (i - 1) Tsk.zero) (l.getD i Tsk.zero))
noncomputable def taskE (y : Yr) (l : List Tsk) : Int := if yearE y ≠ 0 then yearE y else if 60 < l.length then 2 else if allN (tskB y l) l.length = true then 0 else 122
/-- A year without fault. -/
structure YOk (y : Yr) : Prop where
  kept : keptE y.pl y.ps y.xs [] y.prs = 0
  yr : yrI y
  many : y.us.length ≤ 6
  un : ∀ k, k < y.us.length → untB y.ps y.us k = true
section
variable {y : Yr} {l : List Tsk} {i k : Nat} {ps : List Psg} {us : List Unt}
theorem yearE_kept (h : keptE y.pl y.ps y.xs [] y.prs ≠ 0) : yearE y = keptE y.pl y.ps y.xs [] y.prs := by unfold yearE; rw [if_pos h]
theorem yearE_yr (h : keptE y.pl y.ps y.xs [] y.prs = 0) (h1 : ¬ yrI y) : yearE y = 120 := by unfold yearE; rw [if_neg (by omega), if_pos h1]
theorem yearE_many (h : keptE y.pl y.ps y.xs [] y.prs = 0) (h1 : yrI y) (h2 : 6 < y.us.length) : yearE y = 2 := by unfold yearE; rw [if_neg (by omega), if_neg (fun h => h h1), if_pos h2]
theorem yearE_unit (h : keptE y.pl y.ps y.xs [] y.prs = 0) (h1 : yrI y) (h2 : ¬ 6 < y.us.length) (hk : k < y.us.length) (h3 : untB y.ps y.us k = false) : yearE y = 121 := by
  unfold yearE; rw [if_neg (by omega), if_neg (fun h => h h1), if_neg h2, if_neg]
  rw [allN_iff]
  intro h4
  rw [h4 k hk] at h3
  cases h3
theorem yearE_ok (h : keptE y.pl y.ps y.xs [] y.prs = 0) (h1 : yrI y) (h2 : ¬ 6 < y.us.length) (h3 : allN (untB y.ps y.us) y.us.length = true) : yearE y = 0 := by
  unfold yearE; rw [if_neg (by omega), if_neg (fun h => h h1), if_neg h2, if_pos h3]
theorem year_ok (h : yearE y = 0) : YOk y := by
  unfold yearE at h
  split at h
  · omega
  · split at h
    · cases h
    · split at h
      · cases h
      · split at h
        · rename_i h1 h2 h3 h4
          exact ⟨by omega, Classical.not_not.1 h2, by omega, allN_iff.1 h4⟩
        · cases h
theorem taskE_year (h : yearE y ≠ 0) : taskE y l = yearE y := by unfold taskE; rw [if_pos h]
theorem taskE_many (h : yearE y = 0) (h1 : 60 < l.length) : taskE y l = 2 := by unfold taskE; rw [if_neg (by omega), if_pos h1]
theorem taskE_bad (h : yearE y = 0) (h1 : ¬ 60 < l.length) (hi : i < l.length) (h2 : tskB y l i = false) : taskE y l = 122 := by
  unfold taskE; rw [if_neg (by omega), if_neg h1, if_neg]
  rw [allN_iff]
  intro h4
  rw [h4 i hi] at h2
  cases h2
theorem taskE_ok (h : yearE y = 0) (h1 : ¬ 60 < l.length) (h2 : allN (tskB y l) l.length = true) : taskE y l = 0 := by unfold taskE; rw [if_neg (by omega), if_neg h1, if_pos h2]
theorem task_ok (h : taskE y l = 0) : yearE y = 0 ∧ l.length ≤ 60 ∧ ∀ k, k < l.length → tskB y l k = true := by
  unfold taskE at h
  split at h
  · omega
  · split at h
    · cases h
    · split at h
      · rename_i h1 h2 h3
        exact ⟨by omega, by omega, allN_iff.1 h3⟩
      · cases h
theorem tsk_in (h : tskB y l i = true) : (0 ≤ (l.getD i Tsk.zero).day ∧ (l.getD i Tsk.zero).day ≤ y.days - 1) ∧ (0 ≤ (l.getD i Tsk.zero).unit ∧ (l.getD i Tsk.zero).unit ≤ (y.us.length : Int) - 1) ∧ (1 ≤ (l.getD i Tsk.zero).kind ∧ (l.getD i Tsk.zero).kind ≤ 2) := by
  unfold tskB at h
  rw [Bool.and_eq_true] at h
  exact of_decide_eq_true h.1
theorem freeM_iff {m : Int} : freeM ps us i m = true ↔ (∃ k, k < ps.length ∧ 0 ≤ (ps.getD k Psg.zero).mach ∧ (ps.getD k Psg.zero).mach = m) ∧ ∀ k, k < i → (us.getD k Unt.zero).mach ≠ m := by
  unfold freeM freeN
  rw [Bool.and_eq_true, Bool.not_eq_true', ← Bool.not_eq_true, allN_iff, allN_iff]
  constructor
  · rintro ⟨h1, h2⟩
    refine ⟨Classical.byContradiction fun h3 => h1 fun k hk => ?_, fun k hk => ?_⟩
    · rw [Bool.not_eq_true', ← Bool.not_eq_true, Bool.and_eq_true, decide_eq_true_eq, decide_eq_true_eq]
      exact fun h4 => h3 ⟨k, hk, h4⟩
    · have := h2 k hk
      rw [Bool.not_eq_true'] at this
      exact of_decide_eq_false this
  · rintro ⟨⟨k, hk, h1⟩, h2⟩
    refine ⟨fun h3 => ?_, fun k hk => by rw [decide_eq_false (h2 k hk)]; rfl⟩
    have := h3 k hk
    rw [decide_eq_true h1.1, decide_eq_true h1.2] at this
    cases this
structure UntOk (ps : List Psg) (us : List Unt) (u : Unt) (i : Nat) : Prop where
  free : freeM ps us i u.mach = true
  i : untI u
  wear : wearE u.part u.uses = 0
theorem untU_iff {u : Unt} : untU ps us i u = true ↔ UntOk ps us u i := by
  unfold untU
  rw [Bool.and_eq_true, Bool.and_eq_true, decide_eq_true_eq, decide_eq_true_eq]
  exact ⟨fun h => ⟨h.1, h.2.1, h.2.2⟩, fun h => ⟨h.free, h.i, h.wear⟩⟩
theorem untB_iff : untB ps us i = true ↔ UntOk ps us (us.getD i Unt.zero) i := untU_iff
theorem untU_not {u : Unt} (h : ¬ UntOk ps us u i) : untU ps us i u = false := by rw [← Bool.not_eq_true, untU_iff]; exact h
/-- What the map of machines answers, behind n passages and i units. -/
def macP (ps : List Psg) (us : List Unt) (n i : Nat) (h : Int → Option Value) : Prop := ∀ m, (h m).getD (.bool false) = .bool (freeN ps us n i m)
theorem macP_none : macP ps us 0 0 (fun _ => none) := fun m => rfl
theorem freeN_ps {n : Nat} {m : Int} : freeN ps us (n + 1) 0 m = (freeN ps us n 0 m || (decide (0 ≤ (ps.getD n Psg.zero).mach) && decide ((ps.getD n Psg.zero).mach = m))) := by
  unfold freeN
  simp only [allN, Bool.and_true, Bool.not_and, Bool.not_not, Bool.not_or]
theorem macP_ps {n : Nat} (hd : ∀ j, j < n → 0 ≤ (ps.getD n Psg.zero).mach → (ps.getD j Psg.zero).mach ≠ (ps.getD n Psg.zero).mach) (hn : ∀ j, j < n → (ps.getD n Psg.zero).mach < 0 → (ps.getD j Psg.zero).mach = (ps.getD n Psg.zero).mach → (ps.getD j Psg.zero).mach < 0) :
    ∀ h, macP ps us n 0 h → macP ps us (n + 1) 0 (fun k' => if k' = (ps.getD n Psg.zero).mach then some (.bool (decide (0 ≤ (ps.getD n Psg.zero).mach))) else h k') := fun h hh m => by
  dsimp only
  rw [freeN_ps]
  by_cases e : m = (ps.getD n Psg.zero).mach
  · subst e
    rw [if_pos rfl, decide_eq_true (p := (ps.getD n Psg.zero).mach = (ps.getD n Psg.zero).mach) rfl, Bool.and_true]
    by_cases h0 : 0 ≤ (ps.getD n Psg.zero).mach
    · rw [decide_eq_true h0, Bool.or_true]; rfl
    · rw [decide_eq_false h0, Bool.or_false]
      have : freeN ps us n 0 (ps.getD n Psg.zero).mach = false := by
        unfold freeN
        rw [Bool.and_eq_false_iff]
        left
        rw [Bool.not_eq_false', allN_iff]
        intro k hk
        rw [Bool.not_eq_true', Bool.and_eq_false_iff, decide_eq_false_iff_not, decide_eq_false_iff_not]
        by_cases e2 : (ps.getD k Psg.zero).mach = (ps.getD n Psg.zero).mach
        · left; omega
        · exact .inr e2
      rw [this]; rfl
  · rw [if_neg e, decide_eq_false (p := (ps.getD n Psg.zero).mach = m) (fun h => e h.symm), Bool.and_false, Bool.or_false]
    exact hh m
theorem macP_us {i : Nat} : ∀ h, macP ps us ps.length i h → macP ps us ps.length (i + 1) (fun k' => if k' = (us.getD i Unt.zero).mach then some (.bool false) else h k') := fun h hh m => by
  dsimp only
  have e0 : freeN ps us ps.length (i + 1) m = (freeN ps us ps.length i m && !decide ((us.getD i Unt.zero).mach = m)) := by
    unfold freeN
    show (_ && (allN _ i && _)) = _
    rw [Bool.and_assoc]
  rw [e0]
  by_cases e : m = (us.getD i Unt.zero).mach
  · subst e
    rw [if_pos rfl, decide_eq_true rfl, Bool.not_true, Bool.and_false]; rfl
  · rw [if_neg e, decide_eq_false (fun h => e h.symm), Bool.not_false, Bool.and_true]
    exact hh m
theorem untB_not (h : ¬ UntOk ps us (us.getD i Unt.zero) i) : untB ps us i = false := by rw [← Bool.not_eq_true, untB_iff]; exact h
end
end Go.Proofs.Ytopmadlgolnmfaa

namespace Go.Proofs.Ytopmadlgolnmfaa
set_option linter.unusedVariables false
set_option linter.unusedSimpArgs false
open Go.RowKit

/-! ## sets as numbers -/
def bsum (f : Nat → Bool) : Nat → Int
  | 0 => 0
  | n + 1 => bsum f n + if f n = true then 2 ^ n else 0
theorem pow_pos' (n : Nat) : (0 : Int) < 2 ^ n := Int.pow_pos (by decide)
theorem bsum_bd (f : Nat → Bool) : ∀ n, 0 ≤ bsum f n ∧ bsum f n < 2 ^ n := by
  intro n
  induction n with
  | zero => exact ⟨Int.le_refl 0, (by decide : (0 : Int) < 2 ^ 0)⟩
  | succ n ih =>
    have h := pow_pos' n
    rw [bsum, Int.pow_succ]
    split <;> omega
theorem bit_top {x : Int} {n : Nat} (h0 : 0 ≤ x) (h1 : x < 2 ^ n) : x / 2 ^ n % 2 = 0 ∧ (x + 2 ^ n) / 2 ^ n % 2 = 1 := by
  have hp := pow_pos' n
  have e1 : x / 2 ^ n = 0 := Int.ediv_eq_zero_of_lt h0 h1
  refine ⟨by rw [e1]; rfl, ?_⟩
  have e2 : (x + 2 ^ n) / 2 ^ n = x / 2 ^ n + 1 := by
    have := Int.add_mul_ediv_right x 1 (show (2 : Int) ^ n ≠ 0 by omega)
    rw [Int.one_mul] at this
    exact this
  rw [e2, e1]; rfl
theorem bit_low {x : Int} {n d : Nat} (hd : d < n) : (x + 2 ^ n) / 2 ^ d % 2 = x / 2 ^ d % 2 := by
  have hp := pow_pos' d
  have e : (2 : Int) ^ n = (2 ^ (n - d - 1) * 2) * 2 ^ d := by
    rw [← Int.pow_succ, ← Int.pow_add]
    congr 1; omega
  rw [e, Int.add_mul_ediv_right _ _ (by omega)]
  omega
theorem bsum_bit {f : Nat → Bool} : ∀ {n d : Nat}, d < n → bsum f n / 2 ^ d % 2 = if f d = true then 1 else 0 := by
  intro n
  induction n with
  | zero => intro d h; omega
  | succ n ih =>
    intro d hd
    have hb := bsum_bd f n
    rw [bsum]
    by_cases e : d = n
    · subst e
      have h := bit_top hb.1 hb.2
      split
      · exact h.2
      · rw [Int.add_zero]; exact h.1
    · split
      · rw [bit_low (by omega)]; exact ih (by omega)
      · rw [Int.add_zero]; exact ih (by omega)
theorem bsum_hi {f : Nat → Bool} {n d : Nat} (h : n ≤ d) : bsum f n / 2 ^ d % 2 = 0 := by
  have hb := bsum_bd f n
  have hp : (2 : Int) ^ n ≤ 2 ^ d := by
    have h1 : 2 ^ n ≤ 2 ^ d := Nat.pow_le_pow_right (by decide) h
    exact_mod_cast h1
  rw [Int.ediv_eq_zero_of_lt hb.1 (by omega)]; rfl
theorem bsum_lt40 (f : Nat → Bool) {n : Nat} (h : n ≤ 39) : 0 ≤ bsum f n ∧ bsum f n < 2 ^ 40 := by
  have hb := bsum_bd f n
  have hp : (2 : Int) ^ n ≤ 2 ^ 39 := by
    have h1 : 2 ^ n ≤ 2 ^ 39 := Nat.pow_le_pow_right (by decide) h
    exact_mod_cast h1
  omega
theorem shl_ok {d : Nat} (h : d ≤ 39) : i64ok (1 * 2 ^ ((d : Nat) : Int).toNat) := by
  have hp : (2 : Int) ^ d ≤ 2 ^ 39 := by
    have h1 : 2 ^ d ≤ 2 ^ 39 := Nat.pow_le_pow_right (by decide) h
    exact_mod_cast h1
  have h0 := pow_pos' d
  rw [Int.toNat_natCast]
  unfold i64ok
  omega
theorem bsum_t {f : Nat → Bool} {n : Nat} (h : f n = true) : bsum f n + 2 ^ ((n : Nat) : Int).toNat = bsum f (n + 1) := by rw [bsum, if_pos h]; rfl
theorem bsum_f {f : Nat → Bool} {n : Nat} (h : f n = false) : bsum f n = bsum f (n + 1) := by rw [bsum, if_neg (by rw [h]; simp), Int.add_zero]
theorem bsum_congr {f g : Nat → Bool} : ∀ {n : Nat}, (∀ i, i < n → f i = g i) → bsum f n = bsum g n := by
  intro n
  induction n with
  | zero => intro _; rfl
  | succ n ih => intro h; rw [bsum, bsum, ih fun i hi => h i (by omega), h n (by omega)]
theorem wbit_or {m k : Nat} (hm : m < 2 ^ 40) (hk : k < 40) (h : m / 2 ^ k % 2 = 0) : IntKind.i64.wrap ((BitVec.ofInt 64 (m : Int) ||| BitVec.ofInt 64 ((2 ^ k : Nat) : Int)).toNat : Int) = ((m + 2 ^ k : Nat) : Int) := by
  have hp : 2 ^ k ≤ 2 ^ 39 := Nat.pow_le_pow_right (by omega) (by omega)
  have e : ((BitVec.ofInt 64 (m : Int) ||| BitVec.ofInt 64 ((2 ^ k : Nat) : Int)).toNat) = m + 2 ^ k := by
    rw [BitVec.toNat_or, BitVec.ofInt_natCast, BitVec.ofInt_natCast, BitVec.toNat_ofNat, BitVec.toNat_ofNat, Nat.mod_eq_of_lt (by omega), Nat.mod_eq_of_lt (by omega)]
    exact nat_or h
  rw [e]
  exact i64ok.eq ⟨by omega, by omega⟩
section
variable {P : Program} {L : List (Nat × Value)} {w : World} {d : Option Nat} {ty : TypeId} {pos : String} {af : Array Edge} {g : Option (Nat × Bool)}
theorem does_orW {x y : Operand} {xt yt : TypeId} {m k : Int} (hx : ev L x = some (.int .i64 m)) (hy : ev L y = some (.int .i64 (1 * 2 ^ k.toNat))) (hm : 0 ≤ m ∧ m < 2 ^ 40) (hk : 0 ≤ k ∧ k < 40) (h : m / 2 ^ k.toNat % 2 = 0) :
    Does P L ⟨d, .binOp .or xt x y yt, ty, pos, af, g⟩ w (.int .i64 (m + 2 ^ k.toNat)) := fun ρ hρ => by
  obtain ⟨m, rfl⟩ : ∃ n : Nat, m = n := ⟨m.toNat, by omega⟩
  have e1 : (1 : Int) * 2 ^ k.toNat = ((2 ^ k.toNat : Nat) : Int) := by push_cast; omega
  have h1 : m / 2 ^ k.toNat % 2 = 0 := by
    have h2 : ((m / 2 ^ k.toNat % 2 : Nat) : Int) = 0 := by push_cast; exact h
    omega
  have e2 : (m : Int) + 2 ^ k.toNat = ((m + 2 ^ k.toNat : Nat) : Int) := by push_cast; rfl
  have e : Op.intBits .or .i64 (m : Int) (1 * 2 ^ k.toNat) = pure (.int .i64 ((m : Int) + 2 ^ k.toNat)) := by
    rw [e1, e2]
    exact congrArg (fun z => (pure (Value.int .i64 z) : Sem Value)) (wbit_or (by have := hm.2; omega) (by omega) h1)
  rw [Int.one_mul] at e
  simp [execOp, hρ _ _ hx, hρ _ _ hy, eqGuard, binOp, e]
end

/-! ## the life of a unit -/
structure LSt where
  uses : List Use
  born : Int
  seen : Int
def insp (j : Int) : Bool := decide (j / 2 ^ (1 : Int).toNat % 2 = 1)
def renw (j : Int) : Bool := decide (j / 2 ^ (2 : Int).toNat % 2 = 1)
def useAt (u : Unt) (d born : Int) : Use := ⟨d - born, u.tn, u.cl, false, 0, 0⟩
noncomputable def bydB (p : Part) (l : List Use) : Bool := !decide ((beyondO p l Prod.snd).2 = 0) || decide (0 ≤ (beyondO p l Prod.snd).1)
def seenN (s : LSt) (j : Int) (d : Nat) : Int := if insp j = true then (d : Int) else s.seen
def certN (u : Unt) (s : LSt) (j : Int) (d : Nat) : Bool := decide ((d : Int) - seenN s j d ≤ u.every)
noncomputable def runN (u : Unt) (s : LSt) (j : Int) (d : Nat) : Bool := (decide (j = 0) && certN u s j d) && !bydB u.part (s.uses ++ [useAt u d s.born])
noncomputable def stepL (u : Unt) (s : LSt) (j : Int) (d : Nat) : LSt := ⟨if renw j = true then [] else if runN u s j d = true then s.uses ++ [useAt u d s.born] else s.uses, if renw j = true then (d : Int) else s.born, seenN s j d⟩
noncomputable def lifeS (u : Unt) (J : Nat → Int) : Nat → LSt
  | 0 => ⟨u.uses, -u.old, u.seen⟩
  | d + 1 => stepL u (lifeS u J d) (J d) d
noncomputable def certB (u : Unt) (J : Nat → Int) (d : Nat) : Bool := certN u (lifeS u J d) (J d) d
noncomputable def runB' (u : Unt) (J : Nat → Int) (d : Nat) : Bool := runN u (lifeS u J d) (J d) d
section
variable {u : Unt} {J J' : Nat → Int} {d n : Nat}
theorem lifeS_len : ∀ d, (lifeS u J d).uses.length ≤ u.uses.length + d := by
  intro d
  induction d with
  | zero => exact Nat.le_refl _
  | succ d ih =>
    show (stepL u (lifeS u J d) (J d) d).uses.length ≤ _
    unfold stepL
    dsimp only
    split
    · simp
    · split
      · rw [List.length_append]; show _ + 1 ≤ _; omega
      · omega
theorem lifeS_born (ho : 0 ≤ u.old ∧ u.old ≤ 99980) : ∀ d, -99980 ≤ (lifeS u J d).born ∧ (lifeS u J d).born ≤ d := by
  intro d
  induction d with
  | zero => exact ⟨by show -99980 ≤ -u.old; omega, by show -u.old ≤ ((0 : Nat) : Int); omega⟩
  | succ d ih =>
    show -99980 ≤ (stepL u (lifeS u J d) (J d) d).born ∧ (stepL u (lifeS u J d) (J d) d).born ≤ ((d + 1 : Nat) : Int)
    unfold stepL
    dsimp only
    split <;> omega
theorem seenN_bd {s : LSt} {j : Int} (h : -20 ≤ s.seen ∧ s.seen ≤ d) : -20 ≤ seenN s j d ∧ seenN s j d ≤ d := by
  unfold seenN
  split <;> omega
theorem lifeS_seen (ho : -20 ≤ u.seen ∧ u.seen ≤ 0) : ∀ d : Nat, -20 ≤ (lifeS u J d).seen ∧ (lifeS u J d).seen ≤ d := by
  intro d
  induction d with
  | zero => exact ⟨ho.1, ho.2⟩
  | succ d ih =>
    have h := seenN_bd (j := J d) ih
    show -20 ≤ seenN (lifeS u J d) (J d) d ∧ seenN (lifeS u J d) (J d) d ≤ ((d + 1 : Nat) : Int)
    omega
theorem lifeS_congr : ∀ d, (∀ i, i < d → J i = J' i) → lifeS u J d = lifeS u J' d := by
  intro d
  induction d with
  | zero => intro _; rfl
  | succ d ih => intro h; rw [lifeS, lifeS, ih fun i hi => h i (by omega), h d (by omega)]
theorem runB_congr (h : ∀ i, i ≤ d → J i = J' i) : runB' u J d = runB' u J' d := by unfold runB'; rw [lifeS_congr d fun i hi => h i (by omega), h d (Nat.le_refl d)]
theorem certB_congr (h : ∀ i, i ≤ d → J i = J' i) : certB u J d = certB u J' d := by unfold certB; rw [lifeS_congr d fun i hi => h i (by omega), h d (Nat.le_refl d)]
end
theorem box_own {w w0 : World} {F0 : Nat → Prop} {R : List Mem} {i b ty n : Nat} {f : Nat → Value} (S : St w0 F0 R w) (hi : R[i]? = some (boxM b ty ((List.range n).map f))) (hn : n ≤ maxLen) : St w0 F0 (R.set i (ownM ty 1 (some ⟨b, 0, none⟩) n n (fun k _ => f k))) w := by
  refine S.imp hi (fun h => .inr ⟨b, _, rfl, h, Nat.le_refl _, hn, by simp, fun k j hk hj => ?_⟩) (fun k hk => by obtain ⟨a, e, h⟩ := hk; cases e; exact h.symm)
  have : j = 0 := by omega
  subst this
  simp [hk]
theorem runB_up (u : Unt) (J : Nat → Int) (d : Nat) (x : Int) (h : x = seenN (lifeS u J d) (J d) d) : ((decide (J d = 0) && decide ((d : Int) - x ≤ u.every)) && !bydB u.part ((lifeS u J d).uses ++ [⟨(d : Int) - (lifeS u J d).born, u.tn, u.cl, false, 0, 0⟩])) = runB' u J d := by subst h; rfl
theorem certB_up (u : Unt) (J : Nat → Int) (d : Nat) (x : Int) (h : x = seenN (lifeS u J d) (J d) d) : decide ((d : Int) - x ≤ u.every) = certB u J d := by subst h; rfl
/-- The uses behind a day, before a renewal. -/
noncomputable def usesN (u : Unt) (J : Nat → Int) (d : Nat) : List Use := if runB' u J d = true then (lifeS u J d).uses ++ [useAt u d (lifeS u J d).born] else (lifeS u J d).uses
theorem life_t {u : Unt} {J : Nat → Int} {d : Nat} {x : Int} (h : renw (J d) = true) (hx : x = seenN (lifeS u J d) (J d) d) : (⟨[], (d : Int), x⟩ : LSt) = lifeS u J (d + 1) := by
  subst hx
  show _ = stepL u (lifeS u J d) (J d) d
  unfold stepL
  simp only [h, if_true]
theorem life_f {u : Unt} {J : Nat → Int} {d : Nat} {x : Int} (h : renw (J d) = false) (hx : x = seenN (lifeS u J d) (J d) d) : (⟨usesN u J d, (lifeS u J d).born, x⟩ : LSt) = lifeS u J (d + 1) := by
  subst hx
  show _ = stepL u (lifeS u J d) (J d) d
  unfold stepL usesN
  simp only [h, Bool.false_eq_true, if_false]
  rfl
theorem usesN_t {u : Unt} {J : Nat → Int} {d : Nat} (h : runB' u J d = true) : usesN u J d = (lifeS u J d).uses ++ [useAt u d (lifeS u J d).born] := if_pos h
theorem usesN_f {u : Unt} {J : Nat → Int} {d : Nat} (h : runB' u J d = false) : usesN u J d = (lifeS u J d).uses := if_neg (by rw [h]; simp)
/-! ## a plan's jobs -/
def hasT (l : List Tsk) (d u k : Int) : Bool := l.any fun t => decide (t.day = d ∧ t.unit = u ∧ t.kind = k)
/-- The jobs of a unit on a day, as a set. -/
def jobV (l : List Tsk) (u d : Int) : Int := (if hasT l d u 1 = true then 2 else 0) + (if hasT l d u 2 = true then 4 else 0)
theorem jobV_bd (l : List Tsk) (u d : Int) : 0 ≤ jobV l u d ∧ jobV l u d ≤ 6 := by
  unfold jobV
  cases hasT l d u 1 <;> cases hasT l d u 2 <;> decide
theorem hasT_app (l m : List Tsk) (d u k : Int) : hasT (l ++ m) d u k = (hasT l d u k || hasT m d u k) := by unfold hasT; rw [List.any_append]
/-- The jobs of unit u, day by day. -/
def jobF (l : List Tsk) (u : Nat) : Nat → Int := fun d => jobV l u d
noncomputable def runsY (y : Yr) (l : List Tsk) (i d : Nat) : Bool := runB' (y.us.getD i Unt.zero) (jobF l i) d
/-- The machines that are out on a day, of the first n units. -/
noncomputable def outY (y : Yr) (l : List Tsk) (d : Nat) : Nat → Int
  | 0 => 0
  | i + 1 => outY y l d i + if runsY y l i d = true then 0 else 2 ^ (y.us.getD i Unt.zero).mach.toNat
end Go.Proofs.Ytopmadlgolnmfaa

namespace Go.Proofs.Ytopmadlgolnmfaa
set_option linter.unusedVariables false
set_option linter.unusedSimpArgs false
open Go.RowKit

/-- Blocks that are as they were in a world. -/
def frzM (B : Nat → Prop) (wz : World) : Mem where
  fp := B
  holds := fun w => ∀ k, B k → w.heap[k]? = wz.heap[k]?
  stable := fun _ _ h h' k hk => (h k hk).trans (h' k hk)
/-- A slice that is read: it lies in what came in, or in such blocks. -/
def RdF (w0 : World) (F0 B : Nat → Prop) (wz : World) (sz : Nat) (A : Option Addr) (n : Nat) (cell : Nat → Nat → Value) : Prop :=
  0 < n → ∃ b o, A = some ⟨b, o, none⟩ ∧ ((b < w0.heap.size ∧ ¬ F0 b ∧ ∀ k j, k < n → j < sz → w0.cell? ⟨b, o + k * sz + j, none⟩ = some (cell k j)) ∨ (B b ∧ b < wz.heap.size ∧ ∀ k j, k < n → j < sz → wz.cell? ⟨b, o + k * sz + j, none⟩ = some (cell k j)))
section
variable {w w0 wz : World} {F0 B : Nat → Prop} {R : List Mem} {sz n c i : Nat} {A : Option Addr} {cell : Nat → Nat → Value} {e : TypeId}
theorem RdF.base (h : InS w0 F0 sz A n cell) : RdF w0 F0 B wz sz A n cell := fun hn => by
  obtain ⟨b, o, e, h1, h2, h3⟩ := h hn
  exact ⟨b, o, e, .inl ⟨h1, h2, h3⟩⟩
theorem RdF.nil : RdF w0 F0 B wz sz A 0 cell := fun hn => absurd hn (Nat.lt_irrefl 0)
theorem RdF.now (h : RdF w0 F0 B wz sz A n cell) (S : St w0 F0 R w) (hi : R[i]? = some (frzM B wz)) : InS w noF sz A n cell := fun hn => by
  obtain ⟨b, o, e, h⟩ := h hn
  rcases h with ⟨h1, h2, h3⟩ | ⟨h1, h2, h3⟩
  · refine ⟨b, o, e, Nat.lt_of_lt_of_le h1 S.size, fun h => h, fun k j hk hj => ?_⟩
    rw [← h3 k j hk hj]
    exact World.cell?_of_block (w := w0) (S.ro b h1 h2)
  · refine ⟨b, o, e, (S.inn _ (List.mem_of_getElem? hi) b h1).1, fun h => h, fun k j hk hj => ?_⟩
    rw [← h3 k j hk hj]
    exact World.cell?_of_block (w := wz) (S.holds hi b h1)
theorem RdF.nowR {R' : List Mem} (h : RdF w0 F0 B wz sz A n cell) (S : St w0 F0 R w) (hi : R[i]? = some (frzM B wz)) (hR : ∀ m ∈ R', ∃ j, j ≠ i ∧ R[j]? = some m) : InS w (fps R') sz A n cell := fun hn => by
  obtain ⟨b, o, e, h⟩ := h hn
  rcases h with ⟨h1, h2, h3⟩ | ⟨h1, h2, h3⟩
  · refine ⟨b, o, e, Nat.lt_of_lt_of_le h1 S.size, fun ⟨m, hm, hmb⟩ => ?_, fun k j hk hj => ?_⟩
    · obtain ⟨j, _, hj⟩ := hR m hm
      exact h2 ((S.inn m (List.mem_of_getElem? hj) b hmb).2 h1)
    · rw [← h3 k j hk hj]
      exact World.cell?_of_block (w := w0) (S.ro b h1 h2)
  · refine ⟨b, o, e, (S.inn _ (List.mem_of_getElem? hi) b h1).1, fun ⟨m, hm, hmb⟩ => ?_, fun k j hk hj => ?_⟩
    · obtain ⟨j, hji, hj⟩ := hR m hm
      exact S.disj j i m _ hj hi hji b hmb h1
    · rw [← h3 k j hk hj]
      exact World.cell?_of_block (w := wz) (S.holds hi b h1)
theorem RdF.adr (h : RdF w0 F0 B wz sz A n cell) (hn : 0 < n) : A = some ⟨(Go.Proofs.Ytopmadlgolnmfaa.adr A).block, (Go.Proofs.Ytopmadlgolnmfaa.adr A).off, none⟩ := by
  obtain ⟨b, o, rfl, _⟩ := h hn
  rfl
theorem RdF.rd (h : RdF w0 F0 B wz sz A n cell) (S : St w0 F0 R w) (hi : R[i]? = some (frzM B wz)) {k j : Nat} (hk : k < n) (hj : j < sz) : w.cell? (pt A sz k j) = some (cell k j) := (h.now S hi).rd (St.start w) hk hj
theorem RdF.congr {cell' : Nat → Nat → Value} (h : RdF w0 F0 B wz sz A n cell) (hc : ∀ k j, k < n → j < sz → cell k j = cell' k j) : RdF w0 F0 B wz sz A n cell' := fun hn => by
  obtain ⟨b, o, e, h⟩ := h hn
  rcases h with ⟨h1, h2, h3⟩ | ⟨h1, h2, h3⟩
  · exact ⟨b, o, e, .inl ⟨h1, h2, fun k j hk hj => by rw [h3 k j hk hj, hc k j hk hj]⟩⟩
  · exact ⟨b, o, e, .inr ⟨h1, h2, fun k j hk hj => by rw [h3 k j hk hj, hc k j hk hj]⟩⟩
/-- No such blocks yet. -/
theorem St.frz0 (S : St w0 F0 R w) : St w0 F0 (frzM noF w :: R) w := S.new (Keeps.refl _ _) (fun _ h => h.elim) (fun _ h => h.elim)
/-- What was readable stays so. -/
theorem RdF.grow {B' : Nat → Prop} (h : RdF w0 F0 B wz sz A n cell) (S : St w0 F0 R w) (hi : R[i]? = some (frzM B wz)) (hB : ∀ k, B k → B' k) : RdF w0 F0 B' w sz A n cell := fun hn => by
  obtain ⟨b, o, e, h⟩ := h hn
  rcases h with h | ⟨h1, h2, h3⟩
  · exact ⟨b, o, e, .inl h⟩
  · refine ⟨b, o, e, .inr ⟨hB b h1, (S.inn _ (List.mem_of_getElem? hi) b h1).1, fun k j hk hj => ?_⟩⟩
    rw [← h3 k j hk hj]
    exact World.cell?_of_block (w := wz) (S.holds hi b h1)
/-- An owned slice is frozen. -/
theorem St.freeze (S : St w0 F0 (ownM e sz A n c cell :: R) w) (hi : R[i]? = some (frzM B wz)) :
    ∃ B', St w0 F0 (R.set i (frzM B' w)) w ∧ RdF w0 F0 B' w sz A n cell ∧ ∀ sz' A' n' cell', RdF w0 F0 B wz sz' A' n' cell' → RdF w0 F0 B' w sz' A' n' cell' := by
  refine ⟨fun k => B k ∨ (ownM e sz A n c cell).fp k, S.merge (i := i) hi (fun _ _ => rfl) (fun k h => h.symm), fun hn => ?_, fun sz' A' n' cell' h => h.grow S (i := i + 1) (by simpa using hi) fun _ h => .inl h⟩
  have hown := S.holds (i := 0) rfl
  rcases hown with ⟨_, h, _⟩ | ⟨b, cs, rfl, hb, h1, h2, h3, h4⟩
  · omega
  · refine ⟨b, 0, rfl, .inr ⟨.inr ⟨_, rfl, rfl⟩, lt_of_heap hb, fun k j hk hj => ?_⟩⟩
    rw [← h4 k j hk hj, Nat.zero_add]
    exact cell_of_row w b (k * sz + j) cs e (0, 0) hb
end
section
variable {P : Program} {ops : Array Oper} {w w0 : World} {F0 : Nat → Prop} {R : List Mem} {Q : Exit → Act → World → Prop} {rest : List Oper} {N : FN} {L : List (Nat × Value)} {a : Act} {ty : TypeId} {pos : String} {af : Array Edge}
/-- append onto a slice that has no room: a new row, the old one as it was. -/
theorem list_appendC {d t e sz by_ n c m c' : Nat} {x y : Operand} {zs : List Value} {A B : Option Addr} {cell cell' : Nat → Nat → Value} (H : Fr N L a) (hd : Nat.blt d N.n = true) (S : St w0 F0 R w) (ht : SlT P t e) (hs : Sz P e sz) (hz : Zero P e zs) (hby : Bytes P e by_) (hzs : Nat.beq zs.length sz = true) (hpos : Nat.blt 0 sz = true)
    (hx : ev L x = some (.slice A n c)) (hy : ev L y = some (.slice B m c')) (hA : InS w noF sz A n cell) (hn : A = none → n = 0 ∧ c = 0) (hfull : c < n + m) (hm : 0 < m) (hB : InS w noF sz B m cell') (hone : ∀ k j, k < m → j < sz → (cell' k j).oneCell' = true)
    (hlen : (n + m) * by_ ≤ 140737488355328) (hlen2 : n + m ≤ 9223372036854775807)
    (k : ∀ A' c1 w' a', St w0 F0 (ownM e sz A' (n + m) c1 (capp n cell cell') :: R) w' → Fr N ((d, .slice A' (n + m) c1) :: L) a' → wpList P ops Q rest a' w') :
    wpList P ops Q (⟨some d, .call ⟨.builtin .append, #[x, y], #[t, t]⟩, ty, pos, af, none⟩ :: rest) a w := by
  have hpos' : 0 < sz := by simpa using hpos
  have hzs' : zs.length = sz := Nat.eq_of_beq_eq_true hzs
  have hflat : ∀ (q : Nat) (C : Option Addr) (cl : Nat → Nat → Value), InS w noF sz C q cl → ∀ b, C = some b → ∀ (j : Nat) u, (flat sz q cl)[j]? = some u → w.cell? (b.add j) = some u := by
    intro q C cl h b hb j u hu
    have hjl : j < q * sz := by
      have := (List.getElem?_eq_some_iff.1 hu).1
      simpa [flat] using this
    have hq0 : 0 < q := by
      rcases Nat.eq_zero_or_pos q with h0 | h0
      · subst h0; omega
      · exact h0
    obtain ⟨b', o, hC, _, _, hc⟩ := h hq0
    rw [hb] at hC
    injection hC with hC
    subst hC
    rw [add_lit]
    have hk : j / sz < q := (Nat.div_lt_iff_lt_mul hpos').2 hjl
    have hj : j % sz < sz := Nat.mod_lt _ hpos'
    have he : j / sz * sz + j % sz = j := by rw [Nat.mul_comm]; exact Nat.div_add_mod j sz
    have h1 := hc _ _ hk hj
    have h2 := flat_get (cell := cl) hk hj
    rw [he, hu, Option.some.injEq] at h2
    rw [Nat.add_assoc, he] at h1
    rw [h1, h2]
  unfold Zero at hz
  unfold Sz at hs
  unfold Bytes at hby
  cases hi : P.info? e with
  | none => rw [hi] at hz; simp at hz
  | some i =>
    rw [hi] at hz hs hby
    simp at hz hs hby
    obtain ⟨z, hz1, hz2⟩ := hz
    have hzsz : z.cells.size = sz := by rw [← hzs', ← hz2]; simp
    obtain ⟨bb, bo, hBe, _⟩ := hB hm
    have hone' : ∀ u ∈ flat sz m cell', u.oneCell' = true := by
      intro u hu
      simp only [flat, List.mem_map, List.mem_range] at hu
      obtain ⟨q, hq, rfl⟩ := hu
      exact hone _ _ ((Nat.div_lt_iff_lt_mul hpos').2 hq) (Nat.mod_lt _ hpos')
    refine wpList_append_grows (w := w) rfl x y t rfl e i z sz by_ ht hi hz1 hs hby hzsz hpos' A n c (flat sz n cell) (H.eval hx) hn (by simp [flat]) (hflat n A cell hA) ⟨bb, bo, none⟩ m c' (flat sz m cell') (by rw [H.eval hy, hBe]) (by simp [flat]) (fun j u hu => hflat m B cell' hB ⟨bb, bo, none⟩ hBe j u hu) hone' hfull (by simp only [maxLen]; omega) hlen ?_
    intro v' w' hown hgrow
    have hfl : ∀ k j, k < n + m → j < sz → (flat sz n cell ++ flat sz m cell')[k * sz + j]? = some (capp n cell cell' k j) := by
      intro k j hk hj
      have hl : (flat sz n cell).length = n * sz := by simp [flat]
      unfold capp
      by_cases hkn : k < n
      · rw [if_pos hkn]
        have hlt : k * sz + j < n * sz := by
          have : (k + 1) * sz ≤ n * sz := Nat.mul_le_mul_right _ (by omega)
          rw [Nat.add_mul] at this
          omega
        rw [List.getElem?_append_left (by omega)]
        exact flat_get hkn hj
      · rw [if_neg hkn]
        have hge : n * sz ≤ k * sz := Nat.mul_le_mul_right _ (by omega)
        rw [List.getElem?_append_right (by omega), hl]
        have : k * sz + j - n * sz = (k - n) * sz + j := by rw [Nat.sub_mul]; omega
        rw [this]
        exact flat_get (by omega) hj
    have hown0 : w'.ownsRow 0 e sz v' (n + m) (flat sz n cell ++ flat sz m cell') := ⟨hown.1, hown.2.imp (fun h => h) fun ⟨g, cap, cur, h1, h2, h3⟩ => ⟨g, cap, cur, h1, Nat.zero_le _, h3⟩⟩
    obtain ⟨A', c1, rfl, h6, h7⟩ := of_owns (cell := capp n cell cell') hown0 hfl
    refine k A' c1 w' _ (S.new ((Keeps.of_grown hgrow).mono fun k hk => by cases hk) h6 ?_) (H.put _ hd)
    rintro q ⟨aa, rfl, rfl⟩
    rcases hown.2 with ⟨h, _⟩ | ⟨g, cap, cur, h, h1, h2, _⟩
    · cases h
    · injection h with h _ _
      injection h with h
      subst h
      exact ⟨h1, lt_of_heap h2⟩
end
/-- s[:n:n]. -/
theorem does_slice3 {P : Program} {L : List (Nat × Value)} {w : World} {d : Option Nat} {ty : TypeId} {pos : String} {af : Array Edge} {g : Option (Nat × Bool)} {t e sz : Nat} {x y z : Operand} {A : Option Addr} {n c hi : Nat} {k1 k2 : IntKind} (ht : SlT P t e) (hs : Sz P e sz) (hx : ev L x = some (.slice A n c)) (hy : ev L y = some (.int k1 (hi : Int))) (hz : ev L z = some (.int k2 (hi : Int))) (h : hi ≤ c) :
    Does P L ⟨d, .slice t x none (some y) (some z), ty, pos, af, g⟩ w (.slice A hi hi) := fun ρ hρ => by
  have hb : (Instr.sliceBounds true n c none (some (.int k1 (hi : Int))) (some (.int k2 (hi : Int)))).run P w = .ok (0, hi, hi) w := by
    simp [Instr.sliceBounds, Instr.sliceBound, asIntOf, h]
  have e1 : (Instr.sliceAt t (.slice A n c) none (some (.int k1 (hi : Int))) (some (.int k2 (hi : Int)))).run P w = .ok (.slice A hi hi) w := by
    unfold Instr.sliceAt
    simp only [Sem.run_bind, run_und ht, Result.andThen_ok, Instr.slice, hb, hs.run, Sem.run_pure]
    have e0 : (if hi = 0 then A else A.map (·.add (0 * sz))) = A := by
      split
      · rfl
      · cases A with
        | none => rfl
        | some ad => simp [Addr.add]
    rw [e0]
    rfl
  simp [execOp, hρ _ _ hx, hρ _ _ hy, hρ _ _ hz, e1]
end Go.Proofs.Ytopmadlgolnmfaa

namespace Go.Proofs.Ytopmadlgolnmfaa
set_option linter.unusedVariables false
set_option linter.unusedSimpArgs false
open Go.RowKit

section
variable {w w0 : World} {F0 : Nat → Prop} {R : List Mem} {i b : Nat} {κ : Type} [DecidableEq κ] {enc : κ → Value} {Φ Φ' : (κ → Option Value) → Prop}
/-- What a map answers now. -/
theorem mapK.fix (S : St w0 F0 R w) (hi : R[i]? = some (mapK enc b Φ)) : ∃ h0, Φ h0 ∧ St w0 F0 (R.set i (mapK enc b (fun h => h = h0))) w := by
  obtain ⟨es, ck, l, h1, h2, h3, h4, h5⟩ := S.holds hi
  exact ⟨getL l, h5, S.imp hi (fun _ => ⟨es, ck, l, h1, h2, h3, h4, rfl⟩) (fun _ h => h)⟩
theorem mapK.weak (S : St w0 F0 R w) (hi : R[i]? = some (mapK enc b Φ)) (h : ∀ g, Φ g → Φ' g) : St w0 F0 (R.set i (mapK enc b Φ')) w :=
  S.imp hi (fun ⟨es, ck, l, h1, h2, h3, h4, h5⟩ => ⟨es, ck, l, h1, h2, h3, h4, h _ h5⟩) (fun _ h => h)
theorem box_ownL {ty : TypeId} {cs : List Value} (S : St w0 F0 R w) (hi : R[i]? = some (boxM b ty cs)) (hn : cs.length ≤ maxLen) : St w0 F0 (R.set i (ownM ty 1 (some ⟨b, 0, none⟩) cs.length cs.length (fun k _ => cs.getD k undef))) w := by
  refine S.imp hi (fun h => .inr ⟨b, _, rfl, h, Nat.le_refl _, hn, by simp, fun k j hk hj => ?_⟩) (fun k hk => by obtain ⟨a, e, h⟩ := hk; cases e; exact h.symm)
  have : j = 0 := by omega
  subst this
  simp [hk]
theorem own_box {ty : TypeId} {n : Nat} {cell : Nat → Nat → Value} (S : St w0 F0 R w) (hi : R[i]? = some (ownM ty 1 (some ⟨b, 0, none⟩) n n cell)) : St w0 F0 (R.set i (boxM b ty ((List.range n).map fun k => cell k 0))) w := by
  refine S.imp hi (fun h => ?_) (fun k hk => ⟨_, rfl, hk.symm⟩)
  rcases h with ⟨h, _⟩ | ⟨b', cs, hA, hb, h1, h2, h3, h4⟩
  · cases h
  · injection hA with hA
    injection hA with hA
    subst hA
    show w.heap[b]? = _
    rw [hb]
    have e : cs = ((List.range n).map fun k => cell k 0).toArray := by
      apply Array.ext
      · simp; omega
      · intro k hk1 hk2
        have hk : k < n := by simpa using hk2
        have := h4 k 0 hk (by omega)
        rw [Nat.mul_one, Nat.add_zero, Array.getElem?_eq_getElem hk1, Option.some.injEq] at this
        rw [this]; simp
    rw [e]
end

/-! ## the jobs of a unit -/
def orJ (j k : Int) : Int := if k = 1 then (if j / 2 % 2 = 1 then j else j + 2) else (if j / 4 % 2 = 1 then j else j + 4)
theorem does_orJ {P : Program} {L : List (Nat × Value)} {w : World} {d : Option Nat} {ty : TypeId} {pos : String} {af : Array Edge} {g : Option (Nat × Bool)} {x y : Operand} {xt yt : TypeId} {j k : Int} (hx : ev L x = some (.int .i64 j)) (hy : ev L y = some (.int .i64 (1 * 2 ^ k.toNat))) (hj : j = 0 ∨ j = 2 ∨ j = 4 ∨ j = 6) (hk : 1 ≤ k ∧ k ≤ 2) :
    Does P L ⟨d, .binOp .or xt x y yt, ty, pos, af, g⟩ w (.int .i64 (orJ j k)) := fun ρ hρ => by
  have hk' : k = 1 ∨ k = 2 := by omega
  have e : Op.intBits .or .i64 j (1 * 2 ^ k.toNat) = pure (.int .i64 (orJ j k)) := by
    rcases hk' with rfl | rfl <;> rcases hj with rfl | rfl | rfl | rfl <;> rfl
  simp only [execOp, hρ _ _ hx, hρ _ _ hy]
  rw [Int.one_mul] at e
  simp [eqGuard, binOp, e]
theorem jobV_four (l : List Tsk) (u d : Int) : jobV l u d = 0 ∨ jobV l u d = 2 ∨ jobV l u d = 4 ∨ jobV l u d = 6 := by
  unfold jobV
  cases hasT l d u 1 <;> cases hasT l d u 2 <;> decide
theorem hasT_one (t : Tsk) (d u k : Int) : hasT [t] d u k = decide (t.day = d ∧ t.unit = u ∧ t.kind = k) := by
  unfold hasT; simp
theorem jobV_app {l : List Tsk} {t : Tsk} {u d : Int} (hk : 1 ≤ t.kind ∧ t.kind ≤ 2) : jobV (l ++ [t]) u d = if t.unit = u ∧ t.day = d then orJ (jobV l u d) t.kind else jobV l u d := by
  have h1 := hasT_app l [t] d u 1
  have h2 := hasT_app l [t] d u 2
  rw [hasT_one] at h1 h2
  by_cases h : t.unit = u ∧ t.day = d
  · rw [if_pos h]
    have hk' : t.kind = 1 ∨ t.kind = 2 := by omega
    unfold jobV
    rw [h1, h2]
    rcases hk' with e | e
    · rw [e, decide_eq_true (show t.day = d ∧ t.unit = u ∧ (1 : Int) = 1 from ⟨h.2, h.1, rfl⟩), decide_eq_false (show ¬ (t.day = d ∧ t.unit = u ∧ (1 : Int) = 2) from fun h => by omega)]
      cases hasT l d u 1 <;> cases hasT l d u 2 <;> decide
    · rw [e, decide_eq_false (show ¬ (t.day = d ∧ t.unit = u ∧ (2 : Int) = 1) from fun h => by omega), decide_eq_true (show t.day = d ∧ t.unit = u ∧ (2 : Int) = 2 from ⟨h.2, h.1, rfl⟩)]
      cases hasT l d u 1 <;> cases hasT l d u 2 <;> decide
  · rw [if_neg h]
    unfold jobV
    rw [h1, h2, decide_eq_false (fun h9 => h ⟨h9.2.1, h9.1⟩), decide_eq_false (fun h9 => h ⟨h9.2.1, h9.1⟩), Bool.or_false, Bool.or_false]
theorem take_snoc {l : List Tsk} {k : Nat} (hk : k < l.length) : l.take (k + 1) = l.take k ++ [l.getD k Tsk.zero] := by
  rw [List.take_succ_eq_append_getElem hk, List.getD_eq_getElem?_getD, List.getElem?_eq_getElem hk]
  rfl
/-- The cells of a key: the unit, and its jobs of so many tasks. -/
def kcl (i : Nat) (J : Nat → Int) (k _j : Nat) : Value := if k = 0 then .int .i64 i else .int .i64 (J (k - 1))
def jobP (l : List Tsk) (n i : Nat) : Nat → Int := fun d => jobV (l.take n) i d
theorem jobP_all (l : List Tsk) (i : Nat) : jobP l l.length i = jobF l i := by
  funext d; unfold jobP jobF; rw [List.take_length]
theorem jobP_zero (l : List Tsk) (i : Nat) : jobP l 0 i = fun _ => 0 := by funext d; rfl
theorem kcl_zero {l : List Tsk} {i k j : Nat} (hk : k < 21) (hj : j < 1) : (([.int .i64 (i : Int), .int .i64 0, .int .i64 0, .int .i64 0, .int .i64 0, .int .i64 0, .int .i64 0, .int .i64 0, .int .i64 0, .int .i64 0, .int .i64 0, .int .i64 0, .int .i64 0, .int .i64 0, .int .i64 0, .int .i64 0, .int .i64 0, .int .i64 0, .int .i64 0, .int .i64 0, .int .i64 0] : List Value).getD k undef) = kcl i (jobP l 0 i) k j := by
  rw [jobP_zero]
  unfold kcl
  rcases Nat.eq_zero_or_pos k with e | e
  · subst e; rfl
  · rw [if_neg (by omega)]
    obtain ⟨q, rfl⟩ : ∃ q, k = q + 1 := ⟨k - 1, by omega⟩
    have hq : q < 20 := by omega
    show ((List.replicate 20 (Value.int .i64 0)).getD q undef) = _
    rw [List.getD_eq_getElem?_getD, List.getElem?_replicate, if_pos hq]
    rfl
theorem shl_ok1 {k : Int} (h : 1 ≤ k ∧ k ≤ 2) : i64ok (1 * 2 ^ k.toNat) := by
  have hk' : k = 1 ∨ k = 2 := by omega
  rcases hk' with rfl | rfl <;> (unfold i64ok; decide)
theorem jobP_no {l : List Tsk} {n i : Nat} (hn : n < l.length) (hk : 1 ≤ (l.getD n Tsk.zero).kind ∧ (l.getD n Tsk.zero).kind ≤ 2) (h : ¬ (l.getD n Tsk.zero).unit = (i : Int)) : jobP l (n + 1) i = jobP l n i := by
  funext d
  unfold jobP
  rw [take_snoc hn, jobV_app hk, if_neg (fun h9 => h h9.1)]
theorem kcl_put {l : List Tsk} {n i d : Nat} (hn : n < l.length) (hk : 1 ≤ (l.getD n Tsk.zero).kind ∧ (l.getD n Tsk.zero).kind ≤ 2) (h : (l.getD n Tsk.zero).unit = (i : Int)) (hd : (l.getD n Tsk.zero).day = (d : Int)) :
    ∀ k j, j < 1 → cput (kcl i (jobP l n i)) (d + 1) 0 (.int .i64 (orJ (jobP l n i d) (l.getD n Tsk.zero).kind)) k j = kcl i (jobP l (n + 1) i) k j := by
  intro k j hj
  have hj0 : j = 0 := by omega
  subst hj0
  unfold cput kcl jobP
  rw [take_snoc hn]
  by_cases e : k = d + 1
  · subst e
    rw [if_pos ⟨rfl, rfl⟩, if_neg (by omega), Nat.add_sub_cancel, jobV_app hk, if_pos ⟨h, hd⟩]
  · rw [if_neg (fun h9 => e h9.1)]
    by_cases e0 : k = 0
    · rw [if_pos e0, if_pos e0]
    · rw [if_neg e0, if_neg e0, jobV_app hk, if_neg (fun h9 => by omega)]
def keyOf (i : Nat) (J : Nat → Int) : KeyN 21 := ⟨(i : Int) :: (List.range 20).map J, by simp⟩
noncomputable def lifeV (u : Unt) (J : Nat → Int) (n : Nat) : Value := .agg [.int .i64 (bsum (runB' u J) n), .int .i64 (bsum (certB u J) n)].toArray
theorem lifeV_congr {u : Unt} {J J' : Nat → Int} {n : Nat} (h : ∀ d, d < n → J d = J' d) : lifeV u J n = lifeV u J' n := by
  unfold lifeV
  rw [bsum_congr (f := runB' u J) (g := runB' u J') fun d hd => runB_congr fun i hi => h i (by omega), bsum_congr (f := certB u J) (g := certB u J') fun d hd => certB_congr fun i hi => h i (by omega)]
theorem keyOf_inj {i i' : Nat} {J J' : Nat → Int} (h : keyOf i J = keyOf i' J') : i = i' ∧ ∀ d, d < 20 → J d = J' d := by
  have h1 : (i : Int) :: (List.range 20).map J = (i' : Int) :: (List.range 20).map J' := congrArg Subtype.val h
  injection h1 with h2 h3
  refine ⟨by omega, fun d hd => ?_⟩
  have h4 := congrArg (fun l => l[d]?) h3
  simp only [List.getElem?_map, List.getElem?_range hd, Option.map_some, Option.some.injEq] at h4
  exact h4
/-- What the map of lives answers. -/
def livP (y : Yr) (h : KeyN 21 → Option Value) : Prop := ∀ i J v, i < y.us.length → h (keyOf i J) = some v → v = lifeV (y.us.getD i Unt.zero) J y.days.toNat
theorem livP_none {y : Yr} : livP y (fun _ => none) := fun _ _ _ _ h => by cases h
theorem livP_put {y : Yr} {i : Nat} {J : Nat → Int} {v : Value} (hd : y.days.toNat ≤ 20) (hv : v = lifeV (y.us.getD i Unt.zero) J y.days.toNat) : ∀ h, livP y h → livP y (fun k' => if k' = keyOf i J then some v else h k') := fun h hh i' J' v' hi' hv' => by
  dsimp only at hv'
  split at hv'
  · rename_i e
    obtain ⟨e1, e2⟩ := keyOf_inj e
    subst e1
    rw [Option.some.injEq] at hv'
    rw [← hv', hv]
    exact lifeV_congr fun d hd' => (e2 d (by omega)).symm
  · exact hh i' J' v' hi' hv'
/-- Everybody can be out in time, with some machines out. -/
noncomputable def leavB (y : Yr) (out : Int) : Bool := decide (mfv y.pl.toNat y.limit.toNat y.pe y.xs (hds out y.xs y.ps) = sumI y.pe y.pe.length)
def safP (y : Yr) (h : Int → Option Value) : Prop := ∀ o v, (0 ≤ o ∧ o ≤ 4095) → h o = some v → v = .bool (leavB y o)
theorem safP_none {y : Yr} : safP y (fun _ => none) := fun _ _ _ h => by cases h
theorem safP_put {y : Yr} {o : Int} {v : Value} (hv : v = .bool (leavB y o)) : ∀ h, safP y h → safP y (fun k' => if k' = o then some v else h k') := fun h hh o' v' ho' hv' => by
  dsimp only at hv'
  split at hv'
  · rename_i e; subst e; rw [Option.some.injEq] at hv'; rw [← hv', hv]
  · exact hh o' v' ho' hv'
/-- The promises of a day are kept, with some machines out. -/
noncomputable def prmB (y : Yr) (d out : Int) (k : Nat) : Bool := !(decide ((y.prs.getD k Prm.zero).first ≤ d) && decide (d ≤ (y.prs.getD k Prm.zero).last)) || decide (0 ≤ dst y.pl.toNat y.ps out (y.help && (y.prs.getD k Prm.zero).helped) (y.prs.getD k Prm.zero).to.toNat (y.prs.getD k Prm.zero).fr.toNat)
noncomputable def keepB (y : Yr) (d out : Int) : Bool := allN (prmB y d out) y.prs.length
def kepP (y : Yr) (h : Int × Int → Option Value) : Prop := ∀ d o v, (0 ≤ o ∧ o ≤ 4095) → h (d, o) = some v → v = .bool (keepB y d o)
theorem kepP_none {y : Yr} : kepP y (fun _ => none) := fun _ _ _ _ h => by cases h
theorem kepP_put {y : Yr} {d o : Int} {v : Value} (hv : v = .bool (keepB y d o)) : ∀ h, kepP y h → kepP y (fun k' => if k' = (d, o) then some v else h k') := fun h hh d' o' v' ho' hv' => by
  dsimp only at hv'
  split at hv'
  · rename_i e; cases e; rw [Option.some.injEq] at hv'; rw [← hv', hv]
  · exact hh d' o' v' ho' hv'
end Go.Proofs.Ytopmadlgolnmfaa

namespace Go.Proofs.Ytopmadlgolnmfaa
set_option linter.unusedVariables false
set_option linter.unusedSimpArgs false
open Go.RowKit

theorem bsum_set {f g : Nat → Bool} {n : Nat} (h1 : f n = false) (h2 : g n = true) (h3 : ∀ i, i ≠ n → g i = f i) : ∀ N, bsum g N = bsum f N + if n < N then 2 ^ n else 0 := by
  intro N
  induction N with
  | zero => rw [if_neg (by omega)]; rfl
  | succ N ih =>
    rw [bsum, bsum, ih]
    by_cases e : N = n
    · subst e
      rw [h1, h2, if_neg (Nat.lt_irrefl N), if_pos (c := N < N + 1) (by omega)]
      simp
    · rw [h3 N e]
      generalize (if f N = true then (2 : Int) ^ N else 0) = z
      by_cases h4 : n < N
      · rw [if_pos h4, if_pos (c := n < N + 1) (by omega)]; omega
      · rw [if_neg h4, if_neg (c := n < N + 1) (by omega)]; omega
/-- Whether a machine is out on a day, by the first k units. -/
noncomputable def outM (y : Yr) (l : List Tsk) (d k m : Nat) : Bool := !allN (fun i => !(decide ((y.us.getD i Unt.zero).mach = (m : Int)) && !runsY y l i d)) k
section
variable {y : Yr} {l : List Tsk} {d k m : Nat}
theorem outM_succ : outM y l d (k + 1) m = (outM y l d k m || (decide ((y.us.getD k Unt.zero).mach = (m : Int)) && !runsY y l k d)) := by
  unfold outM
  simp only [allN, Bool.not_and, Bool.not_not, Bool.not_or]
theorem outM_iff : outM y l d k m = true ↔ ∃ i, i < k ∧ (y.us.getD i Unt.zero).mach = (m : Int) ∧ runsY y l i d = false := by
  unfold outM
  rw [Bool.not_eq_true', ← Bool.not_eq_true, allN_iff]
  constructor
  · intro h
    refine Classical.byContradiction fun h2 => h fun i hi => ?_
    rw [Bool.not_eq_true', ← Bool.not_eq_true, Bool.and_eq_true, decide_eq_true_eq, Bool.not_eq_true']
    exact fun h3 => h2 ⟨i, hi, h3⟩
  · rintro ⟨i, hi, h1, h2⟩ h
    have := h i hi
    rw [h1, h2] at this
    simp at this
theorem unit_mach {ps : List Psg} {us : List Unt} {P : Int} {xs : List Int} (V : StV P ps xs) {u : Unt} {i : Nat} (h : UntOk ps us u i) : (0 ≤ u.mach ∧ u.mach ≤ 11) ∧ ∀ j, j < i → (us.getD j Unt.zero).mach ≠ u.mach := by
  obtain ⟨⟨k, hk, h1, h2⟩, h3⟩ := freeM_iff.1 h.free
  have h4 := psgOk_iff.1 (V.pas k hk)
  exact ⟨by omega, h3⟩
theorem YOk.V (h : YOk y) : StV y.pl y.ps y.xs := st_valid (dayE_ok (keptE_ok h.kept).1).1
theorem outM_fresh (h : YOk y) (hk : k < y.us.length) : outM y l d k (y.us.getD k Unt.zero).mach.toNat = false := by
  have h1 := unit_mach h.V (untB_iff.1 (h.un k hk))
  rw [← Bool.not_eq_true, outM_iff]
  rintro ⟨i, hi, h2, _⟩
  have := h1.2 i hi
  omega
theorem outY_bsum (h : YOk y) : ∀ k, k ≤ y.us.length → outY y l d k = bsum (outM y l d k) 12 := by
  intro k
  induction k with
  | zero =>
    intro _
    have : ∀ N, bsum (outM y l d 0) N = 0 := fun N => by
      induction N with
      | zero => rfl
      | succ N ih => rw [bsum, ih]; rfl
    rw [this]; rfl
  | succ k ih =>
    intro hk
    have h1 := unit_mach h.V (untB_iff.1 (h.un k (by omega)))
    have hf := outM_fresh (l := l) (d := d) h (show k < y.us.length by omega)
    rw [outY, ih (by omega)]
    by_cases hr : runsY y l k d = true
    · rw [if_pos hr, Int.add_zero]
      refine bsum_congr fun i _ => ?_
      rw [outM_succ, hr]
      simp
    · rw [if_neg hr]
      rw [Bool.not_eq_true] at hr
      rw [bsum_set (g := outM y l d (k + 1)) (n := (y.us.getD k Unt.zero).mach.toNat) hf (by rw [outM_succ, hr, decide_eq_true (by omega)]; simp) (fun i hi => by rw [outM_succ, decide_eq_false (by omega)]; simp), if_pos (by omega)]
theorem outY_bd (h : YOk y) (hk : k ≤ y.us.length) : 0 ≤ outY y l d k ∧ outY y l d k ≤ 4095 := by
  rw [outY_bsum h k hk]
  have := bsum_bd (outM y l d k) 12
  have e : (2 : Int) ^ 12 = 4096 := by decide
  omega
theorem outY_bit (h : YOk y) (hk : k ≤ y.us.length) (hm : m < 12) : outY y l d k / 2 ^ m % 2 = if outM y l d k m = true then 1 else 0 := by
  rw [outY_bsum h k hk]; exact bsum_bit hm
theorem outY_clear (h : YOk y) (hk : k < y.us.length) : outY y l d k / 2 ^ (y.us.getD k Unt.zero).mach.toNat % 2 = 0 := by
  have h1 := unit_mach h.V (untB_iff.1 (h.un k hk))
  rw [outY_bit h (by omega) (by omega), outM_fresh h hk]; rfl
theorem outY_run (hr : runsY y l k d = true) : outY y l d (k + 1) = outY y l d k := by rw [outY, if_pos hr, Int.add_zero]
theorem outY_out (hr : runsY y l k d = false) : outY y l d (k + 1) = outY y l d k + 2 ^ (y.us.getD k Unt.zero).mach.toNat := by rw [outY, if_neg (by rw [hr]; simp)]
noncomputable def setsQ (y : Yr) (l : List Tsk) (k q : Nat) (d _j : Nat) : Value := .int .i64 (if d < q then outY y l d (k + 1) else outY y l d k)
noncomputable def setsV (y : Yr) (l : List Tsk) (k : Nat) (d _j : Nat) : Value := .int .i64 (outY y l d k)
theorem setsQ_zero : setsQ y l k 0 = setsV y l k := by
  funext d j; unfold setsQ setsV; rw [if_neg (by omega)]
theorem setsQ_all {n : Nat} : ∀ d j, d < n → j < 1 → setsQ y l k n d j = setsV y l (k + 1) d j := fun d j hd _ => by
  unfold setsQ setsV; rw [if_pos hd]
theorem setsQ_run {q : Nat} (hr : runsY y l k q = true) : setsQ y l k q = setsQ y l k (q + 1) := by
  funext d j
  unfold setsQ
  by_cases e : d = q
  · subst e; rw [if_neg (by omega), if_pos (by omega), outY_run hr]
  · by_cases h : d < q
    · rw [if_pos h, if_pos (by omega)]
    · rw [if_neg h, if_neg (by omega)]
theorem setsQ_out {q : Nat} {v : Int} (hr : runsY y l k q = false) (hv : v = outY y l q k + 2 ^ (y.us.getD k Unt.zero).mach.toNat) : ∀ d j, j < 1 → cput (setsQ y l k q) q 0 (.int .i64 v) d j = setsQ y l k (q + 1) d j := fun d j hj => by
  subst hv
  have : j = 0 := by omega
  subst this
  unfold cput setsQ
  by_cases e : d = q
  · subst e; rw [if_pos ⟨rfl, rfl⟩, if_pos (by omega), outY_out hr]
  · rw [if_neg (fun h => e h.1)]
    by_cases h : d < q
    · rw [if_pos h, if_pos (by omega)]
    · rw [if_neg h, if_neg (by omega)]
theorem run_t {n q : Nat} (hq : q < n) (h : bsum (runB' (y.us.getD k Unt.zero) (jobF l k)) n / 2 ^ ((q : Nat) : Int).toNat % 2 = 0) : runsY y l k q = false := by
  rw [Int.toNat_natCast, bsum_bit hq] at h
  rw [← Bool.not_eq_true]
  intro h2
  have h3 : runB' (y.us.getD k Unt.zero) (jobF l k) q = true := h2
  rw [if_pos h3] at h
  cases h
theorem run_f {n q : Nat} (hq : q < n) (h : ¬ bsum (runB' (y.us.getD k Unt.zero) (jobF l k)) n / 2 ^ ((q : Nat) : Int).toNat % 2 = 0) : runsY y l k q = true := by
  rw [Int.toNat_natCast, bsum_bit hq] at h
  refine Classical.byContradiction fun h2 => h ?_
  rw [if_neg (show ¬ runB' (y.us.getD k Unt.zero) (jobF l k) q = true from h2)]
theorem YOk.leave (h : YOk y) {out : Int} (ho : 0 ≤ out ∧ out ≤ 4095) : leaveE y.pl y.ps y.xs out y.pe y.limit = 0 := by
  have h1 := (dayE_ok (keptE_ok h.kept).1).1
  have h2 := h.yr
  unfold yrI at h2
  unfold leaveE
  rw [if_neg (by omega), if_pos]
  have h4 : crowdOk y.pl y.pe = true := by unfold crowdOk; rw [decide_eq_true h2.2.1.1, Bool.and_true, allN_iff]; exact fun k hk => decide_eq_true (h2.2.1.2 k hk)
  rw [h4, decide_eq_true ho, decide_eq_true h2.2.2.1]
  rfl
end
end Go.Proofs.Ytopmadlgolnmfaa

namespace Go.Proofs.Ytopmadlgolnmfaa
set_option linter.unusedVariables false
set_option linter.unusedSimpArgs false
open Go.RowKit

/-- How many spares of a kind come on a day, among the first n. -/
def spS (y : Yr) (d k : Nat) : Nat → Int
  | 0 => 0
  | n + 1 => spS y d k n + if (y.sps.getD n Spr.zero).day = (d : Int) ∧ (y.sps.getD n Spr.zero).kind = (k : Int) then (y.sps.getD n Spr.zero).many else 0
/-- The kind of the unit of a task. -/
def tkK (y : Yr) (l : List Tsk) (n : Nat) : Int := (y.us.getD (l.getD n Tsk.zero).unit.toNat Unt.zero).kind
/-- How many overhauls on a day need a spare of a kind, among the first n tasks. -/
def ovS (y : Yr) (l : List Tsk) (d k : Nat) : Nat → Int
  | 0 => 0
  | n + 1 => ovS y l d k n + if ((l.getD n Tsk.zero).day = (d : Int) ∧ (l.getD n Tsk.zero).kind = 2) ∧ tkK y l n = (k : Int) then 1 else 0
/-- The stock of a kind before a day. -/
def stk (y : Yr) (l : List Tsk) (k : Nat) : Nat → Int
  | 0 => 0
  | d + 1 => stk y l k d + spS y d k y.sps.length - ovS y l d k l.length
def jbS (l : List Tsk) (d : Nat) : Nat → Int
  | 0 => 0
  | n + 1 => jbS l d n + if (l.getD n Tsk.zero).day = (d : Int) then 1 else 0
/-- A spare is lacking on a day, for one of the first n tasks. -/
def shS (y : Yr) (l : List Tsk) (d : Nat) : Nat → Bool
  | 0 => false
  | n + 1 => shS y l d n || (decide ((l.getD n Tsk.zero).day = (d : Int) ∧ (l.getD n Tsk.zero).kind = 2) && decide (stk y l (tkK y l n).toNat d + spS y d (tkK y l n).toNat y.sps.length - ovS y l d (tkK y l n).toNat (n + 1) < 0))
noncomputable def faultD (y : Yr) (l : List Tsk) (d : Nat) : Int := if y.crew < jbS l d l.length then 1 else if shS y l d l.length = true then 2 else if keepB y d (outY y l d y.us.length) = false then 3 else if leavB y (outY y l d y.us.length) = false then 4 else 0
noncomputable def judgeD (y : Yr) (l : List Tsk) : Nat := fstB (fun d => decide (faultD y l d ≠ 0)) y.days.toNat
/-- The first day with a fault, and the fault. -/
noncomputable def judgeV (y : Yr) (l : List Tsk) : Int × Int := if judgeD y l < y.days.toNat then ((judgeD y l : Int), faultD y l (judgeD y l)) else (0, 0)
section
variable {y : Yr} {l : List Tsk} {d k n m : Nat}
theorem judge_at (hd : d < y.days.toNat) (h : ∀ q, q < d → faultD y l q = 0) (hf : faultD y l d ≠ 0) : judgeV y l = ((d : Int), faultD y l d) := by
  have e : judgeD y l = d := fst_at (f := fun d => decide (faultD y l d ≠ 0)) (fun q hq => decide_eq_false (fun h9 => h9 (h q hq))) (decide_eq_true hf) hd
  unfold judgeV
  rw [e, if_pos hd]
theorem judge_none (h : ∀ q, q < y.days.toNat → faultD y l q = 0) : judgeV y l = (0, 0) := by
  have e : judgeD y l = y.days.toNat := fst_none (fun q hq => decide_eq_false (fun h9 => h9 (h q hq)))
  unfold judgeV
  rw [e, if_neg (Nat.lt_irrefl _)]
theorem spS_bd (h : YOk y) : ∀ n, n ≤ y.sps.length → 0 ≤ spS y d k n ∧ spS y d k n ≤ 8 * (n : Int) := by
  intro n
  induction n with
  | zero => intro _; exact ⟨Int.le_refl 0, Int.le_refl 0⟩
  | succ n ih =>
    intro hn
    have h1 := ih (by omega)
    have h2 := h.yr.2.2.2.2.2 n (by omega)
    unfold sprB at h2
    have h3 := of_decide_eq_true h2
    rw [spS]
    split <;> omega
theorem ovS_bd : ∀ n, 0 ≤ ovS y l d k n ∧ ovS y l d k n ≤ n := by
  intro n
  induction n with
  | zero => exact ⟨Int.le_refl 0, Int.le_refl 0⟩
  | succ n ih => rw [ovS]; split <;> omega
theorem jbS_bd : ∀ n, 0 ≤ jbS l d n ∧ jbS l d n ≤ n := by
  intro n
  induction n with
  | zero => exact ⟨Int.le_refl 0, Int.le_refl 0⟩
  | succ n ih => rw [jbS]; split <;> omega
theorem stk_bd (h : YOk y) (hl : l.length ≤ 1000) : ∀ d : Nat, -1000 * (d : Int) ≤ stk y l k d ∧ stk y l k d ≤ 160 * d := by
  intro d
  induction d with
  | zero => exact ⟨Int.le_refl 0, Int.le_refl 0⟩
  | succ d ih =>
    have h1 := spS_bd (d := d) (k := k) h y.sps.length (Nat.le_refl _)
    have h2 := ovS_bd (y := y) (l := l) (d := d) (k := k) l.length
    have h3 := h.yr.2.2.2.2.1
    rw [stk]
    omega
def stkC (y : Yr) (l : List Tsk) (d n m k _j : Nat) : Value := .int .i64 (stk y l k d + spS y d k n - ovS y l d k m)
theorem stkC_next : stkC y l d y.sps.length l.length = stkC y l (d + 1) 0 0 := by
  funext k j; unfold stkC; rw [stk]; simp [spS, ovS]
theorem stkC_sp {x : Int} {q : Nat} (hd : (y.sps.getD n Spr.zero).day = (d : Int)) (hq : (y.sps.getD n Spr.zero).kind = (q : Int)) (hx : x = stk y l q d + spS y d q n - ovS y l d q 0 + (y.sps.getD n Spr.zero).many) : ∀ k j, j < 1 → cput (stkC y l d n 0) q 0 (.int .i64 x) k j = stkC y l d (n + 1) 0 k j := fun k j hj => by
  subst hx
  have : j = 0 := by omega
  subst this
  unfold cput stkC
  by_cases e : k = q
  · subst e; rw [if_pos ⟨rfl, rfl⟩, spS, if_pos ⟨hd, hq⟩]; congr 1; omega
  · rw [if_neg (fun h => e h.1), spS, if_neg (fun h => e (by omega))]; congr 1; omega
theorem stkC_no (hd : ¬ (y.sps.getD n Spr.zero).day = (d : Int)) : stkC y l d n 0 = stkC y l d (n + 1) 0 := by
  funext k j; unfold stkC; rw [spS, if_neg (fun h => hd h.1)]; congr 1; omega
theorem stkC_ov {x : Int} {q : Nat} (hd : (l.getD m Tsk.zero).day = (d : Int) ∧ (l.getD m Tsk.zero).kind = 2) (hq : tkK y l m = (q : Int)) (hx : x = stk y l q d + spS y d q n - ovS y l d q m - 1) : ∀ k j, j < 1 → cput (stkC y l d n m) q 0 (.int .i64 x) k j = stkC y l d n (m + 1) k j := fun k j hj => by
  subst hx
  have : j = 0 := by omega
  subst this
  unfold cput stkC
  by_cases e : k = q
  · subst e; rw [if_pos ⟨rfl, rfl⟩, ovS, if_pos ⟨hd, hq⟩]; congr 1; omega
  · rw [if_neg (fun h => e h.1), ovS, if_neg (fun h => e (by omega))]; congr 1; omega
theorem stkC_no2 (hd : ¬ ((l.getD m Tsk.zero).day = (d : Int) ∧ (l.getD m Tsk.zero).kind = 2)) : stkC y l d n m = stkC y l d n (m + 1) := by
  funext k j; unfold stkC; rw [ovS, if_neg (fun h => hd h.1)]; congr 1; omega
theorem jb_no {b : Int} (hb : b = jbS l d m) (hd : ¬ (l.getD m Tsk.zero).day = (d : Int)) : b = jbS l d (m + 1) := by rw [jbS, if_neg hd, hb]; omega
theorem jb_yes {b : Int} (hb : b = jbS l d m) (hd : (l.getD m Tsk.zero).day = (d : Int)) : b + 1 = jbS l d (m + 1) := by rw [jbS, if_pos hd, hb]
theorem sh_no {s : Bool} (hs : s = shS y l d m) (hd : ¬ ((l.getD m Tsk.zero).day = (d : Int) ∧ (l.getD m Tsk.zero).kind = 2)) : s = shS y l d (m + 1) := by
  rw [shS, decide_eq_false hd, Bool.false_and, Bool.or_false, hs]
theorem sh_yes {s : Bool} {q : Nat} {x : Int} (hs : s = shS y l d m) (hd : (l.getD m Tsk.zero).day = (d : Int) ∧ (l.getD m Tsk.zero).kind = 2) (hq : tkK y l m = (q : Int)) (hx : x = stk y l q d + spS y d q y.sps.length - ovS y l d q (m + 1)) : (s || decide (x < 0)) = shS y l d (m + 1) := by
  subst hx
  rw [shS, decide_eq_true hd, Bool.true_and, hs, show (tkK y l m).toNat = q by omega]
theorem fault_1 (h : y.crew < jbS l d l.length) : faultD y l d = 1 := by unfold faultD; rw [if_pos h]
theorem fault_2 (h : ¬ y.crew < jbS l d l.length) (h2 : shS y l d l.length = true) : faultD y l d = 2 := by unfold faultD; rw [if_neg h, if_pos h2]
theorem fault_3 (h : ¬ y.crew < jbS l d l.length) (h2 : shS y l d l.length = false) (h3 : keepB y d (outY y l d y.us.length) = false) : faultD y l d = 3 := by unfold faultD; rw [if_neg h, if_neg (by rw [h2]; simp), if_pos h3]
theorem fault_4 (h : ¬ y.crew < jbS l d l.length) (h2 : shS y l d l.length = false) (h3 : keepB y d (outY y l d y.us.length) = true) (h4 : leavB y (outY y l d y.us.length) = false) : faultD y l d = 4 := by unfold faultD; rw [if_neg h, if_neg (by rw [h2]; simp), if_neg (by rw [h3]; simp), if_pos h4]
theorem fault_0 (h : ¬ y.crew < jbS l d l.length) (h2 : shS y l d l.length = false) (h3 : keepB y d (outY y l d y.us.length) = true) (h4 : leavB y (outY y l d y.us.length) = true) : faultD y l d = 0 := by unfold faultD; rw [if_neg h, if_neg (by rw [h2]; simp), if_neg (by rw [h3]; simp), if_neg (by rw [h4]; simp)]
theorem flt_next (h : ∀ q, q < d → faultD y l q = 0) (h2 : faultD y l d = 0) : ∀ q, q < d + 1 → faultD y l q = 0 := fun q hq => by
  by_cases e : q = d
  · subst e; exact h2
  · exact h q (by omega)
end
end Go.Proofs.Ytopmadlgolnmfaa

namespace Go.Proofs.Ytopmadlgolnmfaa
set_option linter.unusedVariables false
set_option linter.unusedSimpArgs false
open Go.RowKit

section
variable {y : Yr} {l : List Tsk} {u : Int} {f : Nat → Bool} {n : Nat}
end
end Go.Proofs.Ytopmadlgolnmfaa

namespace Go.Proofs.Ytopmadlgolnmfaa
set_option linter.unusedVariables false
set_option linter.unusedSimpArgs false
open Go.RowKit

section
variable {y : Yr} {l : List Tsk} {i d k : Nat} {f : Nat → Bool}
/-! ## the first day on which a unit is out -/
theorem fst_low {g : Nat → Bool} : ∀ {n q}, q < fstB g n → g q = false := by
  intro n
  induction n with
  | zero => intro q hq; exact absurd hq (Nat.not_lt_zero q)
  | succ n ih =>
    intro q hq
    rw [fstB] at hq
    split at hq
    · exact ih hq
    · rename_i h1
      have h2 := fst_le (f := g) n
      split at hq
      · exact ih (by omega)
      · rename_i h3
        by_cases e : q = n
        · subst e; simpa using h3
        · exact ih (by omega)
theorem fst_hit {g : Nat → Bool} : ∀ {n}, fstB g n < n → g (fstB g n) = true := by
  intro n
  induction n with
  | zero => intro h; exact absurd h (Nat.not_lt_zero _)
  | succ n ih =>
    intro h
    rw [fstB] at h ⊢
    split
    · rename_i h1; exact ih h1
    · rename_i h1
      rw [if_neg h1] at h
      split
      · rename_i h2; exact h2
      · rename_i h2; rw [if_neg h2] at h; omega
end
end Go.Proofs.Ytopmadlgolnmfaa
