/- Maps whose keys are short arrays of numbers. -/
import Derived.Test.YtlmddkekeoebcaaE3
import Derived.WideKeyEntry
namespace Go.Proofs.Ytlmddkekeoebcaa
set_option linter.unusedVariables false
set_option linter.unusedSimpArgs false
open Go.RowKit

def enc2 (k : Int × Int) : Value := .agg #[.int .i64 k.1, .int .i64 k.2]
def enc3 (k : Int × Int × Int) : Value := .agg #[.int .i64 k.1, .int .i64 k.2.1, .int .i64 k.2.2]
section
variable {P : Program} {w : World} {kt e : TypeId}
theorem run_part1 (h1 : One P e) {cs : Array Value} {i : Nat} {v : Value} (h : cs[i]? = some v) : (part e cs i).run P w = .ok v w := by
  have : (isAgg e).run P w = .ok false w := by
    unfold One isRowB at h1
    unfold isAgg
    cases hu : P.underlying e with
    | none => rw [hu] at h1; simp at h1
    | some d => rw [hu] at h1; simp only [Sem.run_bind, run_und hu, Result.andThen_ok]; cases d <;> simp_all
  simp [part, this, h]
theorem run_sz (hs : Sz P e 1) : (sizeOf e).run P w = .ok 1 w := by
  unfold Sz at hs
  cases hi : P.info? e with
  | none => rw [hi] at hs; simp at hs
  | some i => rw [hi] at hs; simp at hs; simp [sizeOf, typeInfo, hi, hs]
theorem run_eqI (he : P.underlying e = some (.int .i64)) (d : Nat) (a b : Int) : (Op.equalIn (d + 1) e (.int .i64 a) (.int .i64 b)).run P w = .ok (a == b) w := by
  simp [Op.equalIn, run_und he]
theorem run_eq2 (hk : P.underlying kt = some (.array 2 e)) (he : P.underlying e = some (.int .i64)) (h1 : One P e) (hs : Sz P e 1) (d : Nat) (k k' : Int × Int) : (Op.equalIn (d + 2) kt (enc2 k) (enc2 k')).run P w = .ok (decide (k = k')) w := by
  obtain ⟨a, b⟩ := k
  obtain ⟨a', b'⟩ := k'
  have p0 : ∀ x y : Int, (part e #[.int .i64 x, .int .i64 y] 0).run P w = .ok (.int .i64 x) w := fun x y => run_part1 h1 rfl
  have p1 : ∀ x y : Int, (part e #[.int .i64 x, .int .i64 y] 1).run P w = .ok (.int .i64 y) w := fun x y => run_part1 h1 rfl
  unfold enc2
  rw [Op.equalIn]
  simp [run_und hk, run_sz hs, p0, p1, run_eqI he, Std.Legacy.Range.forIn_eq_forIn_range', Std.Legacy.Range.size, List.range']
  by_cases h : a = a' <;> by_cases h2 : b = b' <;> simp [h, h2]
theorem run_eq3 (hk : P.underlying kt = some (.array 3 e)) (he : P.underlying e = some (.int .i64)) (h1 : One P e) (hs : Sz P e 1) (d : Nat) (k k' : Int × Int × Int) : (Op.equalIn (d + 2) kt (enc3 k) (enc3 k')).run P w = .ok (decide (k = k')) w := by
  obtain ⟨a, b, c⟩ := k
  obtain ⟨a', b', c'⟩ := k'
  have p0 : ∀ x y z : Int, (part e #[.int .i64 x, .int .i64 y, .int .i64 z] 0).run P w = .ok (.int .i64 x) w := fun x y z => run_part1 h1 rfl
  have p1 : ∀ x y z : Int, (part e #[.int .i64 x, .int .i64 y, .int .i64 z] 1).run P w = .ok (.int .i64 y) w := fun x y z => run_part1 h1 rfl
  have p2 : ∀ x y z : Int, (part e #[.int .i64 x, .int .i64 y, .int .i64 z] 2).run P w = .ok (.int .i64 z) w := fun x y z => run_part1 h1 rfl
  unfold enc3
  rw [Op.equalIn]
  simp [run_und hk, run_sz hs, p0, p1, p2, run_eqI he, Std.Legacy.Range.forIn_eq_forIn_range', Std.Legacy.Range.size, List.range']
  by_cases h : a = a' <;> by_cases h2 : b = b' <;> by_cases h3 : c = c' <;> simp [h, h2, h3]
theorem run_ckI (he : P.underlying e = some (.int .i64)) (m : Bool) (n : Nat) (a : Int) : (Instr.checkKey m (n + 1) e (.int .i64 a)).run P w = .ok () w := by
  rw [Instr.checkKey]
  simp only [Sem.run_bind, run_und he, Result.andThen_ok]
  rfl
theorem run_ck2 (hk : P.underlying kt = some (.array 2 e)) (he : P.underlying e = some (.int .i64)) (h1 : One P e) (hs : Sz P e 1) (m : Bool) (n : Nat) (k : Int × Int) : (Instr.checkKey m (n + 2) kt (enc2 k)).run P w = .ok () w := by
  have p0 : ∀ x y : Int, (part e #[.int .i64 x, .int .i64 y] 0).run P w = .ok (.int .i64 x) w := fun x y => run_part1 h1 rfl
  have p1 : ∀ x y : Int, (part e #[.int .i64 x, .int .i64 y] 1).run P w = .ok (.int .i64 y) w := fun x y => run_part1 h1 rfl
  unfold enc2
  rw [Instr.checkKey]
  simp [run_und hk, run_sz hs, p0, p1, run_ckI he, Std.Legacy.Range.forIn_eq_forIn_range', Std.Legacy.Range.size, List.range']
theorem run_ck3 (hk : P.underlying kt = some (.array 3 e)) (he : P.underlying e = some (.int .i64)) (h1 : One P e) (hs : Sz P e 1) (m : Bool) (n : Nat) (k : Int × Int × Int) : (Instr.checkKey m (n + 2) kt (enc3 k)).run P w = .ok () w := by
  have p0 : ∀ x y z : Int, (part e #[.int .i64 x, .int .i64 y, .int .i64 z] 0).run P w = .ok (.int .i64 x) w := fun x y z => run_part1 h1 rfl
  have p1 : ∀ x y z : Int, (part e #[.int .i64 x, .int .i64 y, .int .i64 z] 1).run P w = .ok (.int .i64 y) w := fun x y z => run_part1 h1 rfl
  have p2 : ∀ x y z : Int, (part e #[.int .i64 x, .int .i64 y, .int .i64 z] 2).run P w = .ok (.int .i64 z) w := fun x y z => run_part1 h1 rfl
  unfold enc3
  rw [Instr.checkKey]
  simp [run_und hk, run_sz hs, p0, p1, p2, run_ckI he, Std.Legacy.Range.forIn_eq_forIn_range', Std.Legacy.Range.size, List.range']
theorem run_ask {κ : Type} [DecidableEq κ] {enc : κ → Value} (heq : ∀ (k k' : κ) (w : World), (Op.equal kt (enc k) (enc k')).run P w = .ok (decide (k = k')) w) (k : κ) : ∀ (l : List (κ × Value)) (es : List MapEntry) (i : Nat), es.map (fun e => (e.key, e.val)) = l.map (fun p => (enc p.1, p.2)) → (Instr.findAsking kt (enc k) es i).run P w = .ok (findL k l i) w := by
  intro l
  induction l with
  | nil =>
    intro es i he
    have : es = [] := by simpa using he
    subst this
    rfl
  | cons p l ih =>
    intro es i he
    cases es with
    | nil => simp at he
    | cons x es =>
      simp only [List.map_cons, List.cons.injEq, Prod.mk.injEq] at he
      obtain ⟨⟨g1, g2⟩, g3⟩ := he
      rw [Instr.findAsking, g1]
      simp only [Sem.run_bind, heq, Result.andThen_ok, findL]
      by_cases hk : k = p.1
      · rw [if_pos hk, decide_eq_true hk, g2]; rfl
      · rw [if_neg hk, decide_eq_false hk]
        exact ih es (i + 1) g3
theorem keyOk_arr {κ : Type} [DecidableEq κ] {enc : κ → Value} {n : Nat} (hk : P.underlying kt = some (.array n e)) (heq : ∀ (k k' : κ) (w : World), (Op.equal kt (enc k) (enc k')).run P w = .ok (decide (k = k')) w)
    (hck : ∀ (m : Bool) (k : κ) (w : World), (Instr.checkKey m 10000 kt (enc k)).run P w = .ok () w) (hb : ∀ k : κ, Instr.sameBits 10000 (enc k) (enc k) = true) : KeyOk P kt enc := by
  refine ⟨fun l k es w he => ?_, hck, hb⟩
  rw [run_findKey_eq w (by rw [hk])]
  exact run_ask heq k l es 0 he
theorem keyOk2 (hk : P.underlying kt = some (.array 2 e)) (he : P.underlying e = some (.int .i64)) (h1 : One P e) (hs : Sz P e 1) : KeyOk P kt enc2 :=
  keyOk_arr hk (fun k k' w => by unfold Op.equal; rw [show Op.maxDepth = 9998 + 2 from rfl]; exact run_eq2 hk he h1 hs 9998 k k') (fun m k w => by rw [show (10000 : Nat) = 9998 + 2 from rfl]; exact run_ck2 hk he h1 hs m 9998 k) (fun k => by rw [show (10000 : Nat) = 9998 + 2 from rfl]; simp [enc2, Instr.sameBits])
theorem keyOk3 (hk : P.underlying kt = some (.array 3 e)) (he : P.underlying e = some (.int .i64)) (h1 : One P e) (hs : Sz P e 1) : KeyOk P kt enc3 :=
  keyOk_arr hk (fun k k' w => by unfold Op.equal; rw [show Op.maxDepth = 9998 + 2 from rfl]; exact run_eq3 hk he h1 hs 9998 k k') (fun m k w => by rw [show (10000 : Nat) = 9998 + 2 from rfl]; exact run_ck3 hk he h1 hs m 9998 k) (fun k => by rw [show (10000 : Nat) = 9998 + 2 from rfl]; simp [enc3, Instr.sameBits])
end

theorem key_at {κ : Type} {enc : κ → Value} {es : List MapEntry} {l : List (κ × Value)} {j : Nat} {k : κ} {v : Value} (he : es.map (fun e => (e.key, e.val)) = l.map (fun p => (enc p.1, p.2))) (h : l[j]? = some (k, v)) : ∃ e, es[j]? = some e ∧ e.key = enc k ∧ e.val = v := by
  have h1 : (es.map (fun e => (e.key, e.val)))[j]? = (l.map (fun p => (enc p.1, p.2)))[j]? := by rw [he]
  rw [List.getElem?_map, List.getElem?_map, h] at h1
  cases h2 : es[j]? with
  | none => rw [h2] at h1; simp at h1
  | some e => rw [h2] at h1; simp at h1; exact ⟨e, rfl, h1.1, h1.2⟩
/-- A map of which it is known what it answers. -/
def mapK {κ : Type} [DecidableEq κ] (enc : κ → Value) (b : Nat) (Φ : (κ → Option Value) → Prop) : Mem where
  fp := fun k => k = b
  holds := fun w => ∃ (es : Array MapEntry) (ck : Nat) (l : List (κ × Value)), w.heap[b]? = some (.map es ck) ∧ es.toList.map (fun e => (e.key, e.val)) = l.map (fun p => (enc p.1, p.2)) ∧ (∀ x ∈ es.toList, x.born < ck) ∧ (es.toList.map MapEntry.born).Nodup ∧ Φ (getL l)
  stable := fun _ _ h ⟨es, ck, l, h1, h2⟩ => ⟨es, ck, l, (h b rfl).trans h1, h2⟩
/-- .. and an entry's stamp. -/
def StampAt {κ : Type} [DecidableEq κ] (enc : κ → Value) (b : Nat) (Φ : (κ → Option Value) → Prop) (k : κ) (st : Nat) (w : World) : Prop :=
  ∃ (es : Array MapEntry) (ck : Nat) (l : List (κ × Value)) (j : Nat) (v0 : Value), (w.heap[b]? = some (.map es ck) ∧ es.toList.map (fun e => (e.key, e.val)) = l.map (fun p => (enc p.1, p.2)) ∧ (∀ x ∈ es.toList, x.born < ck) ∧ (es.toList.map MapEntry.born).Nodup ∧ Φ (getL l)) ∧ findL k l 0 = some (j, v0) ∧ (es.toList[j]?).map MapEntry.born = some st
section
variable {P : Program} {ops : Array Oper} {w w0 : World} {F0 : Nat → Prop} {R : List Mem} {Q : Exit → Act → World → Prop} {rest : List Oper} {N : FN} {L : List (Nat × Value)} {a : Act} {ty : TypeId} {pos : String} {af : Array Edge}
variable {κ : Type} [DecidableEq κ] {enc : κ → Value} {Φ Φ' : (κ → Option Value) → Prop}
theorem list_makeMapK {d t : Nat} (enc : κ → Value) (Φ : (κ → Option Value) → Prop) (hΦ : Φ (fun _ => none)) (H : Fr N L a) (hd : Nat.blt d N.n = true) (S : St w0 F0 R w)
    (k : ∀ b w' a', w0.heap.size ≤ b → St w0 F0 (mapK enc b Φ :: R) w' → Fr N ((d, .map (some b)) :: L) a' → wpList P ops Q rest a' w') :
    wpList P ops Q (⟨some d, .makeMap t none, ty, pos, af, none⟩ :: rest) a w := by
  refine wpList_plain rfl fun K hK => ?_
  unfold Oper.wp
  have e : (execOp a.eval ⟨some d, .makeMap t none, ty, pos, af, none⟩).run P w = .ok (.value (.map (some w.heap.size))) (w.alloc (.map #[] 0)) := by
    simp [execOp, Instr.makeMap, newObj, Sem.run]
  rw [e]
  refine hK _ _ (k w.heap.size _ _ S.size (S.new (Keeps.alloc w _ _) ⟨#[], 0, [], heap_alloc_new w _, rfl, fun x hx => by simp at hx, by simp, hΦ⟩ ?_) (H.put _ hd))
  intro q hq
  rw [show q = w.heap.size from hq]
  simp
theorem does_lookupK {x y : Operand} {t kt et b i : Nat} {d : Option Nat} {g : Option (Nat × Bool)} {z v : Value} {k : κ} (S : St w0 F0 R w) (hi : R[i]? = some (mapK enc b Φ)) (ht : MapT P t kt et) (hk : KeyOk P kt enc) (hz : ZeroV P et z) (hx : ev L x = some (.map (some b))) (hy : ev L y = some (enc k)) (hv : ∀ h, Φ h → (h k).getD z = v) :
    Does P L ⟨d, .lookup t x y false, ty, pos, af, g⟩ w v := fun ρ hρ => by
  obtain ⟨es, ck, l, hb, he, _, _, hΦ⟩ := S.holds hi
  have := run_lookup (k := k) ht hk hz (⟨es, ck, hb, he⟩ : (mapM enc b l).holds w) false
  simp [execOp, hρ _ _ hx, hρ _ _ hy, this, hv _ hΦ]
theorem does_lookupOkK {x y : Operand} {t kt et b i : Nat} {d : Option Nat} {g : Option (Nat × Bool)} {z v : Value} {s : Bool} {k : κ} (S : St w0 F0 R w) (hi : R[i]? = some (mapK enc b Φ)) (ht : MapT P t kt et) (hk : KeyOk P kt enc) (hz : ZeroV P et z) (hx : ev L x = some (.map (some b))) (hy : ev L y = some (enc k)) (hv : ∀ h, Φ h → (h k).getD z = v ∧ (h k).isSome = s) :
    Does P L ⟨d, .lookup t x y true, ty, pos, af, g⟩ w (.tuple #[v, .bool s]) := fun ρ hρ => by
  obtain ⟨es, ck, l, hb, he, _, _, hΦ⟩ := S.holds hi
  have := run_lookup (k := k) ht hk hz (⟨es, ck, hb, he⟩ : (mapM enc b l).holds w) true
  obtain ⟨h1, h2⟩ := hv _ hΦ
  simp [execOp, hρ _ _ hx, hρ _ _ hy, this, h1, h2]
theorem findL_new {k : κ} {v : Value} : ∀ {l : List (κ × Value)}, findL k l 0 = none → findL k (l ++ [(k, v)]) 0 = some (l.length, v) := by
  intro l
  induction l with
  | nil => intro _; simp [findL]
  | cons p l ih =>
    intro h
    simp only [findL, List.cons_append] at h ⊢
    by_cases hk : k = p.1
    · rw [if_pos hk] at h; cases h
    · rw [if_neg hk] at h ⊢
      rw [findL_shift] at h ⊢
      cases hf : findL k l 0 with
      | none => rw [ih hf]; simp
      | some q => rw [hf] at h; cases h
theorem setL_new {l : List (κ × Value)} {k : κ} {v : Value} (h : findL k l 0 = none) : setL l k v = l ++ [(k, v)] := by unfold setL; rw [h]
theorem setL_old {l : List (κ × Value)} {k : κ} {v v0 : Value} {j : Nat} (h : findL k l 0 = some (j, v0)) : setL l k v = l.modify j fun p => (p.1, v) := by unfold setL; rw [h]
theorem getL_setF {l : List (κ × Value)} {k : κ} {v : Value} : getL (setL l k v) = fun k' => if k' = k then some v else getL l k' := funext fun k' => getL_set v k k' l
theorem getL_none {l : List (κ × Value)} {k : κ} (h : findL k l 0 = none) : getL l k = none := by unfold getL; rw [h]; rfl
theorem born_modify (f : MapEntry → MapEntry) (hf : ∀ e, (f e).born = e.born) : ∀ (l : List MapEntry) (i : Nat), (l.modify i f).map MapEntry.born = l.map MapEntry.born := by
  intro l
  induction l with
  | nil => intro i; simp
  | cons e l ih =>
    intro i
    cases i with
    | zero => simp [hf]
    | succ i => simp [List.modify_succ_cons, ih]
theorem born_lt {l l' : List MapEntry} {ck : Nat} (h : l'.map MapEntry.born = l.map MapEntry.born) (hl : ∀ x ∈ l, x.born < ck) : ∀ x ∈ l', x.born < ck := fun x hx => by
  have h1 : x.born ∈ l'.map MapEntry.born := List.mem_map.2 ⟨x, hx, rfl⟩
  rw [h] at h1
  obtain ⟨y, hy, e⟩ := List.mem_map.1 h1
  have := hl y hy
  omega
theorem born_new {l : List MapEntry} {e : MapEntry} {ck : Nat} (he : e.born = ck) (hl : ∀ x ∈ l, x.born < ck) (hn : (l.map MapEntry.born).Nodup) : (∀ x ∈ l ++ [e], x.born < ck + 1) ∧ ((l ++ [e]).map MapEntry.born).Nodup := by
  constructor
  · intro x hx
    rcases List.mem_append.1 hx with hx | hx
    · have := hl x hx; omega
    · rw [List.mem_singleton.1 hx]; omega
  · rw [List.map_append, List.nodup_append]
    refine ⟨hn, by simp, fun p hp q hq e1 => ?_⟩
    obtain ⟨x, hx, rfl⟩ := List.mem_map.1 hp
    simp only [List.map_cons, List.map_nil, List.mem_singleton] at hq
    have := hl x hx
    omega
theorem list_mapUpdateK {x y u : Operand} {t kt et b i : Nat} {k : κ} {v : Value} (Φ' : (κ → Option Value) → Prop) (H : Fr N L a) (S : St w0 F0 R w) (hi : R[i]? = some (mapK enc b Φ)) (ht : MapT P t kt et) (hk : KeyOk P kt enc) (hx : ev L x = some (.map (some b))) (hy : ev L y = some (enc k)) (hu : ev L u = some v)
    (hΦ' : ∀ h, Φ h → Φ' (fun k' => if k' = k then some v else h k'))
    (kk : ∀ w' a', St w0 F0 (R.set i (mapK enc b Φ')) w' → Fr N L a' → wpList P ops Q rest a' w') :
    wpList P ops Q (⟨none, .mapUpdate t x y u, ty, pos, af, none⟩ :: rest) a w := by
  refine wpList_plain rfl fun K hK => ?_
  obtain ⟨es, ck, l, hb, he, hlt, hnd, hΦ⟩ := S.holds hi
  have hf := hk.find l k es.toList w he
  have hg : (getObj b).run P w = .ok (.map es ck) w := by simp [getObj, Sem.run, hb]
  have hs : ∀ o, (setObj b o).run P w = .ok () (w.putObj b o) := fun o => by simp [setObj, Sem.run, hb, World.putObj]
  have hkeeps : ∀ o, Keeps w (w.putObj b o) (fun k => k = b) := fun o => ⟨rfl, rfl, rfl, by simp [World.putObj], fun q _ hq => World.putObj_heap_other (fun e => hq e)⟩
  have hΦ2 : Φ' (getL (setL l k v)) := by rw [getL_setF]; exact hΦ' _ hΦ
  unfold MapT at ht
  unfold Oper.wp
  cases hfl : findL k l 0 with
  | none =>
    rw [hfl] at hf
    have e1 : (execOp a.eval ⟨none, .mapUpdate t x y u, ty, pos, af, none⟩).run P w = .ok .skip (w.putObj b (.map (es.push { key := enc k, val := v, born := ck }) (ck + 1))) := by
      simp [execOp, H.eval hx, H.eval hy, H.eval hu, Instr.mapUpdate, run_und ht, hg, hk.check, hf, hs]
    rw [e1]
    have hb2 := born_new (e := { key := enc k, val := v, born := ck }) rfl hlt hnd
    refine hK _ _ (kk _ _ (S.updSame hi (hkeeps _) ⟨_, _, setL l k v, World.putObj_heap_same (lt_of_heap hb), ?_, ?_, ?_, hΦ2⟩ (fun _ h => h)) (H.put_none _))
    · rw [setL_new hfl]; simp [he]
    · rw [Array.toList_push]; exact hb2.1
    · rw [Array.toList_push]; exact hb2.2
  | some q =>
    obtain ⟨j, v0⟩ := q
    rw [hfl] at hf
    have hat := findL_at hfl
    obtain ⟨e0, h1, h2, h3⟩ := key_at he hat
    have hej : (es[j]?).map (·.key) = some (enc k) := by rw [← Array.getElem?_toList, h1, ← h2]; rfl
    have hst : (Instr.keyThatStays (enc k) (enc k)).run P w = .ok (enc k) w := by simp [Instr.keyThatStays, hk.bits k]
    have e1 : (execOp a.eval ⟨none, .mapUpdate t x y u, ty, pos, af, none⟩).run P w = .ok .skip (w.putObj b (.map (es.modify j fun e => { e with key := enc k, val := v }) ck)) := by
      simp [execOp, H.eval hx, H.eval hy, H.eval hu, Instr.mapUpdate, run_und ht, hg, hk.check, hf, hs, hej, hst]
    rw [e1]
    have hbm := born_modify (fun e => { e with key := enc k, val := v }) (fun _ => rfl) es.toList j
    refine hK _ _ (kk _ _ (S.updSame hi (hkeeps _) ⟨_, _, setL l k v, World.putObj_heap_same (lt_of_heap hb), ?_, ?_, ?_, hΦ2⟩ (fun _ h => h)) (H.put_none _))
    · rw [setL_old hfl, Array.toList_modify]
      refine modify_map _ _ _ _ es.toList l j he fun e p g1 g2 g3 => ?_
      rw [hat] at g3
      injection g3 with g3
      subst g3
      rfl
    · rw [Array.toList_modify]; exact born_lt hbm hlt
    · rw [Array.toList_modify, hbm]; exact hnd
theorem list_mapEntryK {d : Nat} {x y : Operand} {t kt et b i : Nat} {z : Value} {k : κ} (H : Fr N L a) (hd : Nat.blt d N.n = true) (S : St w0 F0 R w) (hi : R[i]? = some (mapK enc b Φ)) (ht : MapT P t kt et) (hk : KeyOk P kt enc) (hz : ZeroV P et z) (hx : ev L x = some (.map (some b))) (hy : ev L y = some (enc k))
    (hΦz : ∀ h, Φ h → h k = none → Φ (fun k' => if k' = k then some z else h k'))
    (kk : ∀ w' a' (st : Nat) v0, StampAt enc b Φ k st w' → St w0 F0 (R.set i (mapK enc b Φ)) w' → Fr N ((d, .tuple #[v0, .int .i64 (st : Int)]) :: L) a' → wpList P ops Q rest a' w') :
    wpList P ops Q (⟨some d, .mapEntry t x y, ty, pos, af, none⟩ :: rest) a w := by
  refine wpList_plain rfl fun K hK => ?_
  obtain ⟨es, ck, l, hb, he, hlt, hnd, hΦ⟩ := S.holds hi
  have hf := hk.find l k es.toList w he
  have hg : (getObj b).run P w = .ok (.map es ck) w := by simp [getObj, Sem.run, hb]
  have hs : ∀ o, (setObj b o).run P w = .ok () (w.putObj b o) := fun o => by simp [setObj, Sem.run, hb, World.putObj]
  have hkeeps : ∀ o, Keeps w (w.putObj b o) (fun k => k = b) := fun o => ⟨rfl, rfl, rfl, by simp [World.putObj], fun q _ hq => World.putObj_heap_other (fun e => hq e)⟩
  unfold MapT at ht
  unfold Oper.wp
  cases hfl : findL k l 0 with
  | none =>
    rw [hfl] at hf
    have e1 : (execOp a.eval ⟨some d, .mapEntry t x y, ty, pos, af, none⟩).run P w = .ok (.value (.tuple #[z, .int .i64 (ck : Int)])) (w.putObj b (.map (es.push { key := enc k, val := z, born := ck }) (ck + 1))) := by
      simp [execOp, H.eval hx, H.eval hy, Instr.mapEntry, run_und ht, hg, hk.check, hf, hs, run_zeroV hz, goInt]
    rw [e1]
    have hb2 := born_new (e := { key := enc k, val := z, born := ck }) rfl hlt hnd
    have hold : (World.putObj w b (.map (es.push { key := enc k, val := z, born := ck }) (ck + 1))).heap[b]? = some (.map (es.push { key := enc k, val := z, born := ck }) (ck + 1)) ∧ (es.push { key := enc k, val := z, born := ck }).toList.map (fun e => (e.key, e.val)) = (setL l k z).map (fun p => (enc p.1, p.2)) ∧ (∀ x ∈ (es.push { key := enc k, val := z, born := ck }).toList, x.born < ck + 1) ∧ ((es.push { key := enc k, val := z, born := ck }).toList.map MapEntry.born).Nodup ∧ Φ (getL (setL l k z)) := by
      refine ⟨World.putObj_heap_same (lt_of_heap hb), ?_, ?_, ?_, ?_⟩
      · rw [setL_new hfl]; simp [he]
      · rw [Array.toList_push]; exact hb2.1
      · rw [Array.toList_push]; exact hb2.2
      · rw [getL_setF]; exact hΦz _ hΦ (getL_none hfl)
    have hll : l.length = es.size := by have := congrArg List.length he; simpa using this.symm
    refine hK _ _ (kk _ _ ck z ⟨_, _, _, l.length, z, hold, by rw [setL_new hfl]; exact findL_new hfl, by rw [Array.toList_push, hll]; simp⟩ (S.updSame hi (hkeeps _) ⟨_, _, _, hold⟩ (fun _ h => h)) (H.put _ hd))
  | some q =>
    obtain ⟨j, v0⟩ := q
    rw [hfl] at hf
    have hat := findL_at hfl
    obtain ⟨e0, h1, h2, h3⟩ := key_at he hat
    have h1' : es[j]? = some e0 := by rw [← Array.getElem?_toList]; exact h1
    have hst : (Instr.keyThatStays (enc k) (enc k)).run P w = .ok (enc k) w := by simp [Instr.keyThatStays, hk.bits k]
    have e1 : (execOp a.eval ⟨some d, .mapEntry t x y, ty, pos, af, none⟩).run P w = .ok (.value (.tuple #[v0, .int .i64 (e0.born : Int)])) (w.putObj b (.map (es.modify j fun e => { e with key := enc k }) ck)) := by
      simp [execOp, H.eval hx, H.eval hy, Instr.mapEntry, run_und ht, hg, hk.check, hf, hs, h1', h2, hst, goInt]
    rw [e1]
    have hbm := born_modify (fun e => { e with key := enc k }) (fun _ => rfl) es.toList j
    have hold : (World.putObj w b (.map (es.modify j fun e => { e with key := enc k }) ck)).heap[b]? = some (.map (es.modify j fun e => { e with key := enc k }) ck) ∧ (es.modify j fun e => { e with key := enc k }).toList.map (fun e => (e.key, e.val)) = l.map (fun p => (enc p.1, p.2)) ∧ (∀ x ∈ (es.modify j fun e => { e with key := enc k }).toList, x.born < ck) ∧ ((es.modify j fun e => { e with key := enc k }).toList.map MapEntry.born).Nodup ∧ Φ (getL l) := by
      refine ⟨World.putObj_heap_same (lt_of_heap hb), ?_, ?_, ?_, hΦ⟩
      · rw [Array.toList_modify]
        have := modify_map (fun e => { e with key := enc k }) id (fun e : MapEntry => (e.key, e.val)) (fun p : κ × Value => (enc p.1, p.2)) es.toList l j he (fun e p g1 g2 g3 => by
          rw [hat] at g3
          injection g3 with g3
          subst g3
          simp only [Prod.mk.injEq] at g1
          simp [g1.2])
        rw [List.modify_id] at this
        exact this
      · rw [Array.toList_modify]; exact born_lt hbm hlt
      · rw [Array.toList_modify, hbm]; exact hnd
    refine hK _ _ (kk _ _ e0.born v0 ⟨_, _, _, j, v0, hold, hfl, by
      have : ((es.modify j fun e => { e with key := enc k }).toList.map MapEntry.born)[j]? = (es.toList.map MapEntry.born)[j]? := by rw [Array.toList_modify, hbm]
      rw [List.getElem?_map, List.getElem?_map, h1] at this
      exact this⟩ (S.updSame hi (hkeeps _) ⟨_, _, _, hold⟩ (fun _ h => h)) (H.put _ hd))
theorem list_entryStoreK {x y u : Operand} {t b i st : Nat} {k : κ} {v : Value} (Φ' : (κ → Option Value) → Prop) (H : Fr N L a) (S : St w0 F0 R w) (hi : R[i]? = some (mapK enc b Φ)) (hst : StampAt enc b Φ k st w) (hx : ev L x = some (.map (some b))) (hy : ev L y = some (.int .i64 (st : Int))) (hu : ev L u = some v)
    (hΦ' : ∀ h, Φ h → Φ' (fun k' => if k' = k then some v else h k'))
    (kk : ∀ w' a', St w0 F0 (R.set i (mapK enc b Φ')) w' → Fr N L a' → wpList P ops Q rest a' w') :
    wpList P ops Q (⟨none, .entryStore t x y u, ty, pos, af, none⟩ :: rest) a w := by
  refine wpList_plain rfl fun K hK => ?_
  obtain ⟨es, ck, l, j, v0, ⟨hb, he, hlt, hnd, hΦ⟩, hfl, hbj⟩ := hst
  have hat := findL_at hfl
  obtain ⟨e0, h1, h2, h3⟩ := key_at he hat
  rw [h1] at hbj
  simp only [Option.map_some, Option.some.injEq] at hbj
  have hg : (getObj b).run P w = .ok (.map es ck) w := by simp [getObj, Sem.run, hb]
  have hs : ∀ o, (setObj b o).run P w = .ok () (w.putObj b o) := fun o => by simp [setObj, Sem.run, hb, World.putObj]
  have hkeeps : ∀ o, Keeps w (w.putObj b o) (fun k => k = b) := fun o => ⟨rfl, rfl, rfl, by simp [World.putObj], fun q _ hq => World.putObj_heap_other (fun e => hq e)⟩
  have hidx : es.findIdx? (fun e => ((e.born : Nat) : Int) == ((st : Nat) : Int)) = some j := by
    rw [Go.WideElems.findIdx_arr, ← hbj]
    exact Go.WideElems.findIdx_born hnd h1
  unfold Oper.wp
  have e1 : (execOp a.eval ⟨none, .entryStore t x y u, ty, pos, af, none⟩).run P w = .ok .skip (w.putObj b (.map (es.modify j fun e => { e with val := v }) ck)) := by
    simp [execOp, H.eval hx, H.eval hy, H.eval hu, Instr.entryStore, hg, hs, asInt, asIntOf, hidx]
  rw [e1]
  have hbm := born_modify (fun e => { e with val := v }) (fun _ => rfl) es.toList j
  refine hK _ _ (kk _ _ (S.updSame hi (hkeeps _) ⟨_, _, setL l k v, World.putObj_heap_same (lt_of_heap hb), ?_, ?_, ?_, ?_⟩ (fun _ h => h)) (H.put_none _))
  · rw [setL_old hfl, Array.toList_modify]
    refine modify_map _ _ _ _ es.toList l j he fun e p g1 g2 g3 => ?_
    simp only [Prod.mk.injEq] at g1 ⊢
    exact ⟨g1.1, trivial⟩
  · rw [Array.toList_modify]; exact born_lt hbm hlt
  · rw [Array.toList_modify, hbm]; exact hnd
  · rw [getL_setF]; exact hΦ' _ hΦ
end
end Go.Proofs.Ytlmddkekeoebcaa
