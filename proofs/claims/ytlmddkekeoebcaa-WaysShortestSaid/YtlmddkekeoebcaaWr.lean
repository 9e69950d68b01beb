/- The operations that make or write memory. -/
import Derived.Test.YtlmddkekeoebcaaCtl
import Derived.Laws.MakeOwn
namespace Go.Proofs.Ytlmddkekeoebcaa
set_option linter.unusedVariables false
set_option linter.unusedSimpArgs false
open Go.RowKit

def Zero (P : Program) (t : Nat) (zs : List Value) : Prop := (P.info? t).map (fun i => (i.zero.map fun z => z.cells.toList)) = some (some zs)
def Bytes (P : Program) (t n : Nat) : Prop := (P.info? t).map (·.bytes) = some n

def splice : List Value → Nat → List Value → List Value
  | cs, 0, [] => cs
  | _ :: cs, 0, v :: vs => v :: splice cs 0 vs
  | c :: cs, o + 1, vs => c :: splice cs o vs
  | [], _, _ => []

theorem splice_eq : ∀ (cs : List Value) (o : Nat) (vs : List Value), o + vs.length ≤ cs.length → splice cs o vs = cs.take o ++ vs ++ cs.drop (o + vs.length) := by
  intro cs
  induction cs with
  | nil =>
    intro o vs h
    have : vs = [] := by cases vs with | nil => rfl | cons _ _ => simp at h
    subst this
    cases o with
    | zero => rfl
    | succ o => simp at h
  | cons c cs ih =>
    intro o vs h
    cases o with
    | zero =>
      cases vs with
      | nil => rfl
      | cons v vs =>
        simp only [splice]
        have := ih 0 vs (by simp at h ⊢; omega)
        simp at this
        simp [this]
    | succ o =>
      simp only [splice]
      have := ih o vs (by simp at h; omega)
      rw [this]
      simp [Nat.add_right_comm]

theorem splice_length (cs : List Value) (o : Nat) (vs : List Value) (h : o + vs.length ≤ cs.length) : (splice cs o vs).length = cs.length := by
  rw [splice_eq cs o vs h]; simp; omega

section
variable {P : Program} {ops : Array Oper} {w w0 : World} {F0 : Nat → Prop} {R : List Mem} {Q : Exit → Act → World → Prop} {Qs : Act → Prop} {rest l : List Oper} {N : FN} {L : List (Nat × Value)} {a : Act} {ty : TypeId} {pos : String} {af : Array Edge} {op : Op} {o : Oper}

theorem St.alloc (S : St w0 F0 R w) (cs : Array Value) (t : TypeId) {m : Mem} (hm : m.holds (w.alloc (.cells cs t))) (hf : ∀ k, m.fp k → k = w.heap.size) : St w0 F0 (m :: R) (w.alloc (.cells cs t)) :=
  S.new (Keeps.alloc w _ _) hm fun k hk => by rw [hf k hk]; simp

theorem boxM.new (S : St w0 F0 R w) (cs : List Value) (t : TypeId) : St w0 F0 (boxM w.heap.size t cs :: R) (w.alloc (.cells cs.toArray t)) :=
  S.alloc _ _ (heap_alloc_new w _) (fun _ h => h)

theorem heap_new (w : World) (o : Obj) : (w.alloc o).heap[w.heap.size]? = some o := heap_alloc_new w _

theorem list_box {d t : Nat} {x : Operand} {v : Value} {cs : List Value} (H : Fr N L a) (hd : Nat.blt d N.n = true) (S : St w0 F0 R w) (hx : ev L x = some v) (hv : v.cells = cs.toArray)
    (k : ∀ b w' a', b < w'.heap.size → w0.heap.size ≤ b → St w0 F0 (boxM b t cs :: R) w' → Fr N ((d, .pointer (some ⟨b, 0, none⟩)) :: L) a' → wpList P ops Q rest a' w') :
    wpList P ops Q (⟨some d, .box t x, ty, pos, af, none⟩ :: rest) a w := by
  refine wpList_plain rfl fun K hK => ?_
  unfold Oper.wp
  have e : (execOp a.eval ⟨some d, .box t x, ty, pos, af, none⟩).run P w = .ok (.value (.pointer (some ⟨w.heap.size, 0, none⟩))) (w.alloc (.cells cs.toArray t)) := by
    simp [execOp, H.eval hx, Instr.box, newVar, newRow, newObj, hv, Sem.run]
  rw [e]
  exact hK _ _ (k w.heap.size _ _ (by simp) S.size (boxM.new S cs t) (H.put _ hd))

theorem list_alloc {d t : Nat} {cs : List Value} (H : Fr N L a) (hd : Nat.blt d N.n = true) (S : St w0 F0 R w) (hz : Zero P t cs)
    (k : ∀ b w' a', b < w'.heap.size → w0.heap.size ≤ b → St w0 F0 (boxM b t cs :: R) w' → Fr N ((d, .pointer (some ⟨b, 0, none⟩)) :: L) a' → wpList P ops Q rest a' w') :
    wpList P ops Q (⟨some d, .alloc t, ty, pos, af, none⟩ :: rest) a w := by
  refine wpList_plain rfl fun K hK => ?_
  unfold Oper.wp
  unfold Zero at hz
  cases hi : P.info? t with
  | none => rw [hi] at hz; simp at hz
  | some i =>
    rw [hi] at hz
    simp at hz
    obtain ⟨z, hz1, hz2⟩ := hz
    have hz3 : z.cells = cs.toArray := by rw [← hz2, Array.toArray_toList]
    have e : (execOp a.eval ⟨some d, .alloc t, ty, pos, af, none⟩).run P w = .ok (.value (.pointer (some ⟨w.heap.size, 0, none⟩))) (w.alloc (.cells cs.toArray t)) := by
      simp [execOp, Instr.alloc, zeroValue, typeInfo, hi, hz1, newVar, newRow, newObj, hz3, Sem.run]
    rw [e]
    exact hK _ _ (k w.heap.size _ _ (by simp) S.size (boxM.new S cs t) (H.put _ hd))

theorem setRow_keeps (w : World) (g : Nat) (cs : Array Value) : Keeps w (w.setRow g cs) (fun k => k = g) :=
  ⟨rfl, rfl, rfl, by simp, fun k _ hk => setRow_other w g k _ (fun e => hk e)⟩

theorem run_storeVar {t b o : Nat} {v : Value} {vs : List Value} {cur : Array Value} {e : TypeId} (hs : Sz P t vs.length) (hv : v.cells = vs.toArray) (hg : w.heap[b]? = some (.cells cur e (0, 0)))
    (hle : o + vs.length ≤ cur.size) (h1 : ∀ u ∈ vs, u.oneCell' = true) :
    (Instr.storeAt t (.pointer (some ⟨b, o, none⟩)) v).run P w = .ok () (w.setRow b (splice cur.toList o vs).toArray) := by
  have h := run_storeCells_at P b o e vs 0 cur w hg (by simpa using hle) h1
  simp only [Nat.add_zero] at h
  rw [splice_eq _ _ _ (by simpa using hle)]
  simp [Instr.storeAt, Instr.sureAddr, storeVar, hs.run, hv, h]

/-- A store into a box. -/
theorem list_store {t b off i : Nat} {bt : TypeId} {x y : Operand} {v : Value} {vs cs : List Value} (H : Fr N L a) (S : St w0 F0 R w) (hi : R[i]? = some (boxM b bt cs))
    (hx : ev L x = some (.pointer (some ⟨b, off, none⟩))) (hy : ev L y = some v) (hv : v.cells = vs.toArray) (hs : Sz P t vs.length) (hle : Nat.ble (off + vs.length) cs.length = true) (h1 : vs.all (fun u => u.oneCell') = true)
    (k : ∀ w' a', St w0 F0 (R.set i (boxM b bt (splice cs off vs))) w' → Fr N L a' → wpList P ops Q rest a' w') :
    wpList P ops Q (⟨none, .store t x y, ty, pos, af, none⟩ :: rest) a w := by
  refine wpList_plain rfl fun K hK => ?_
  unfold Oper.wp
  have hle' : off + vs.length ≤ cs.length := by simpa using hle
  have hr := run_storeVar (P := P) (w := w) hs hv (S.holds hi) (by simpa using hle') (fun u hu => by simpa using List.all_eq_true.1 h1 u hu)
  have e : (execOp a.eval ⟨none, .store t x y, ty, pos, af, none⟩).run P w = .ok .skip (w.setRow b (splice cs off vs).toArray) := by
    simp [execOp, H.eval hx, H.eval hy, hr]
  rw [e]
  refine hK _ _ (k _ _ (S.updSame hi (setRow_keeps w b _) ?_ (fun _ h => h)) (H.put_none _))
  exact setRow_heap w b _ _ bt (0, 0) (S.holds hi)

/-- The cells of one element turned. -/
def cput (cell : Nat → Nat → Value) (k j : Nat) (v : Value) : Nat → Nat → Value := fun k' j' => if k' = k ∧ j' = j then v else cell k' j'
def cputs (cell : Nat → Nat → Value) (k j : Nat) (vs : List Value) : Nat → Nat → Value := fun k' j' => if k' = k ∧ j ≤ j' ∧ j' < j + vs.length then vs.getD (j' - j) undef else cell k' j'

theorem flat_ne {sz k j k' j' : Nat} (hj : j < sz) (hj' : j' < sz) (h : ¬ (k' = k ∧ j' = j)) : k * sz + j ≠ k' * sz + j' := by
  intro e
  apply h
  have h1 : (k * sz + j) / sz = k := by rw [Nat.add_comm, Nat.add_mul_div_right _ _ (by omega), Nat.div_eq_of_lt hj]; omega
  have h2 : (k' * sz + j') / sz = k' := by rw [Nat.add_comm, Nat.add_mul_div_right _ _ (by omega), Nat.div_eq_of_lt hj']; omega
  have : k = k' := by rw [← h1, e, h2]
  subst this
  omega

/-- A store of one cell into an owned slice. -/
theorem list_store_own {t e sz i kk j n c : Nat} {A : Option Addr} {cell : Nat → Nat → Value} {x y : Operand} {v : Value} (H : Fr N L a) (S : St w0 F0 R w) (hi : R[i]? = some (ownM e sz A n c cell))
    (hx : ev L x = some (.pointer (some (pt A sz kk j)))) (hy : ev L y = some v) (hk : kk < n) (hj : j < sz) (hs : Sz P t 1) (h1 : v.oneCell' = true)
    (k : ∀ w' a', St w0 F0 (R.set i (ownM e sz A n c (cput cell kk j v))) w' → Fr N L a' → wpList P ops Q rest a' w') :
    wpList P ops Q (⟨none, .store t x y, ty, pos, af, none⟩ :: rest) a w := by
  refine wpList_plain rfl fun K hK => ?_
  unfold Oper.wp
  rcases S.holds hi with ⟨_, h, _⟩ | ⟨b, cs, rfl, hb, hnc, hcm, hsz, hc⟩
  · omega
  have hv : v.cells = [v].toArray := by cases v <;> first | rfl | simp [Value.oneCell'] at h1
  have hlt : kk * sz + j < cs.size := by
    rw [hsz]
    have : (kk + 1) * sz ≤ c * sz := Nat.mul_le_mul_right _ (by omega)
    rw [Nat.add_mul] at this
    omega
  have hp : pt (some ⟨b, 0, none⟩) sz kk j = ⟨b, kk * sz + j, none⟩ := by simp [pt, adr]
  rw [hp] at hx
  have hr := run_storeVar (P := P) (w := w) (t := t) (b := b) (o := kk * sz + j) (v := v) (vs := [v]) (by simpa using hs) hv hb (by simp; omega) (by simpa using h1)
  have e1 : (execOp a.eval ⟨none, .store t x y, ty, pos, af, none⟩).run P w = .ok .skip (w.setRow b (splice cs.toList (kk * sz + j) [v]).toArray) := by
    simp [execOp, H.eval hx, H.eval hy, hr]
  rw [e1]
  refine hK _ _ (k _ _ (S.updSame hi ((setRow_keeps w b _).mono ?_) ?_ (fun _ h => h)) (H.put_none _))
  · rintro q rfl; exact ⟨_, rfl, rfl⟩
  · refine .inr ⟨b, _, rfl, setRow_heap w b _ _ e (0, 0) hb, hnc, hcm, ?_, ?_⟩
    · rw [List.size_toArray, splice_length _ _ _ (by simp; omega)]; simpa using hsz
    · intro k' j' hk' hj'
      rw [List.getElem?_toArray, splice_eq _ _ _ (by simp; omega)]
      have hk2 : k' * sz + j' < cs.size := by
        rw [hsz]
        have : (k' + 1) * sz ≤ c * sz := Nat.mul_le_mul_right _ (by omega)
        rw [Nat.add_mul] at this
        omega
      by_cases hh : k' = kk ∧ j' = j
      · obtain ⟨rfl, rfl⟩ := hh
        rw [List.append_assoc, List.getElem?_append_right (by simp; omega)]
        simp [cput, Nat.min_eq_left (Nat.le_of_lt hk2)]
      · have hne := flat_ne hj hj' hh
        have hcell := hc k' j' hk' hj'
        have : cput cell kk j v k' j' = cell k' j' := by simp [cput, hh]
        rw [this, ← hcell]
        rcases Nat.lt_or_ge (k' * sz + j') (kk * sz + j) with h | h
        · rw [List.append_assoc, List.getElem?_append_left (by simp; omega), List.getElem?_take_of_lt h]; simp
        · have h' : kk * sz + j < k' * sz + j' := by omega
          rw [List.getElem?_append_right (by simp; omega), List.getElem?_drop]
          simp only [List.length_append, List.length_take, List.length_cons, List.length_nil, Array.length_toList]
          rw [Nat.min_eq_left (by omega)]
          rw [show kk * sz + j + (0 + 1) + (k' * sz + j' - (kk * sz + j + (0 + 1))) = k' * sz + j' by omega]
          simp

theorem St.newNil (S : St w0 F0 R w) (e sz : Nat) (cell : Nat → Nat → Value) : St w0 F0 (ownM e sz none 0 0 cell :: R) w :=
  S.new (Keeps.refl _ _) (.inl ⟨rfl, rfl, rfl⟩) fun k ⟨_, h, _⟩ => by cases h

/-- make([]T, n). -/
theorem list_make {d t e sz by_ : Nat} {x y : Operand} {n : Nat} {zs : List Value} (H : Fr N L a) (hd : Nat.blt d N.n = true) (S : St w0 F0 R w) (ht : SlT P t e) (hs : Sz P e sz) (hz : Zero P e zs) (hby : Bytes P e by_) (hzs : zs.length = sz) (hpos : 0 < sz)
    (hx : ev L x = some (.int .i64 (n : Int))) (hy : ev L y = some (.int .i64 (n : Int))) (hn : by_ * n ≤ 140737488355328) (hn2 : n ≤ 9223372036854775807)
    (k : ∀ A w' a', (0 < n → A = some ⟨(adr A).block, (adr A).off, none⟩) → St w0 F0 (ownM e sz A n n (fun _ j => zs.getD j undef) :: R) w' → Fr N ((d, .slice A n n) :: L) a' → wpList P ops Q rest a' w') :
    wpList P ops Q (⟨some d, .makeSlice t x y, ty, pos, af, none⟩ :: rest) a w := by
  refine wpList_plain rfl fun K hK => ?_
  unfold Oper.wp
  unfold Zero at hz
  unfold Sz at hs
  unfold Bytes at hby
  cases hi : P.info? e with
  | none => rw [hi] at hz; simp at hz
  | some i =>
    rw [hi] at hz hs hby
    simp at hz hs hby
    obtain ⟨z, hz1, hz2⟩ := hz
    have hz3 : z.cells = zs.toArray := by rw [← hz2, Array.toArray_toList]
    have hb1 : (i.bytes : Int) * (n : Int) ≤ 281474976710656 := by
      rw [hby]
      have : ((by_ * n : Nat) : Int) ≤ 140737488355328 := by omega
      rw [Int.natCast_mul] at this
      omega
    have hr := run_make (P := P) w t e i z ht hi hz1 .i64 .i64 (n : Int) (n : Int) (by omega) (Int.le_refl _) hb1 (by omega)
    simp only [Int.toNat_natCast, hs, hz3] at hr
    have e1 : (execOp a.eval ⟨some d, .makeSlice t x y, ty, pos, af, none⟩).run P w = .ok (.value (.slice (some ⟨w.heap.size, 0, none⟩) n n)) (w.alloc (.cells (madeCells zs.toArray (n * sz)) e)) := by
      simp [execOp, H.eval hx, H.eval hy, hr]
    rw [e1]
    refine hK _ _ (k (some ⟨w.heap.size, 0, none⟩) _ _ (fun _ => rfl) (S.alloc _ _ (.inr ⟨w.heap.size, _, rfl, heap_alloc_new w _, Nat.le_refl _, by simp only [maxLen]; omega, size_madeCells _ _, ?_⟩) ?_) (H.put _ hd))
    · intro k' j' hk' hj'
      have hlt : k' * sz + j' < n * sz := by
        have : (k' + 1) * sz ≤ n * sz := Nat.mul_le_mul_right _ (by omega)
        rw [Nat.add_mul] at this
        omega
      have hm : (k' * sz + j') % sz = j' := by rw [Nat.add_comm, Nat.add_mul_mod_self_right, Nat.mod_eq_of_lt hj']
      simp only [madeCells, Array.getElem?_map]
      rw [Array.getElem?_range, if_pos hlt]
      simp only [Option.map_some, List.size_toArray, hzs, hm, Option.some.injEq]
      rw [List.getD_eq_getElem?_getD, List.getElem?_eq_getElem (by omega)]
      simp [hzs, hj']
    · rintro q ⟨_, h, rfl⟩; cases h; rfl

theorem fold_set : ∀ (vs : List Value) (k off : Nat) (cs : Array Value) (i : Nat), off + k + vs.length ≤ cs.size →
    ((vs.zipIdx k).foldl (fun (cs : Array Value) (p : Value × Nat) => cs.setIfInBounds (off + p.2) p.1) cs)[i]? = (if off + k ≤ i ∧ i < off + k + vs.length then vs[i - (off + k)]? else cs[i]?) := by
  intro vs
  induction vs with
  | nil => intro k off cs i _; simp; intro h1 h2; omega
  | cons v vs ih =>
    intro k off cs i h
    simp only [List.length_cons] at h
    simp only [List.zipIdx_cons, List.foldl_cons, List.length_cons]
    rw [ih (k + 1) off _ i (by simp; omega)]
    by_cases h1 : off + (k + 1) ≤ i ∧ i < off + (k + 1) + vs.length
    · rw [if_pos h1, if_pos (by omega)]
      rw [show i - (off + k) = (i - (off + (k + 1))) + 1 by omega]
      simp
    · rw [if_neg h1]
      by_cases h2 : i = off + k
      · subst h2
        have hlt : off + k < cs.size := by omega
        rw [if_pos (by omega)]
        simp [hlt]
      · rw [if_neg (by omega), Array.getElem?_setIfInBounds_ne (by omega)]

theorem fold_size : ∀ (vs : List Value) (k off : Nat) (cs : Array Value), ((vs.zipIdx k).foldl (fun (cs : Array Value) (p : Value × Nat) => cs.setIfInBounds (off + p.2) p.1) cs).size = cs.size := by
  intro vs
  induction vs with
  | nil => intro k off cs; rfl
  | cons v vs ih => intro k off cs; simp only [List.zipIdx_cons, List.foldl_cons]; rw [ih]; simp

def numberO : Nat → List Operand → List (Nat × Operand)
  | _, [] => []
  | i, x :: xs => (i, x) :: numberO (i + 1) xs

def numberV : Nat → List Value → List (Nat × Value)
  | _, [] => []
  | i, x :: xs => (i, x) :: numberV (i + 1) xs

theorem fill_all {sz : Nat} : ∀ (vs : List Value) (css : List (List Value)) (i0 : Nat) (cs : Array Value), vs.map (fun v => v.cells.toList) = css → (∀ c ∈ css, c.length = sz) → (i0 + vs.length) * sz ≤ cs.size →
    ∃ cs', Instr.fill (fun i => some (i * sz, sz)) cs (numberV i0 vs) = some cs' ∧ cs'.size = cs.size ∧
      ∀ k j, j < sz → cs'[k * sz + j]? = (if i0 ≤ k ∧ k < i0 + vs.length then some ((css.getD (k - i0) []).getD j undef) else cs[k * sz + j]?) := by
  intro vs
  induction vs with
  | nil => intro css i0 cs _ _ _; exact ⟨cs, rfl, rfl, fun k j _ => by rw [if_neg (by simp)]⟩
  | cons v vs ih =>
    intro css i0 cs hcss hall hle
    cases css with
    | nil => simp at hcss
    | cons c css =>
      simp only [List.map_cons, List.cons.injEq] at hcss
      obtain ⟨hc, hcss⟩ := hcss
      have hcl : c.length = sz := hall c (List.mem_cons_self ..)
      have hvs : v.cells.size = sz := by rw [← hcl, ← hc]; simp
      simp only [List.length_cons] at hle
      have hle1 : i0 * sz + sz ≤ cs.size := by
        have : (i0 + 1) * sz ≤ (i0 + (vs.length + 1)) * sz := Nat.mul_le_mul_right _ (by omega)
        rw [Nat.add_mul] at this
        omega
      let cs1 := (c.zipIdx 0).foldl (fun (cs : Array Value) (p : Value × Nat) => cs.setIfInBounds (i0 * sz + p.2) p.1) cs
      have hs1 : cs1.size = cs.size := fold_size c 0 (i0 * sz) cs
      obtain ⟨cs', h1, h2, h3⟩ := ih css (i0 + 1) cs1 hcss (fun x hx => hall x (List.mem_cons_of_mem _ hx)) (by rw [hs1, show i0 + 1 + vs.length = i0 + (vs.length + 1) by omega]; exact hle)
      refine ⟨cs', ?_, by rw [h2, hs1], ?_⟩
      · simp only [numberV, Instr.fill]
        rw [if_neg (by simp [hvs]; omega)]
        have e : v.cells.zipIdx.foldl (fun (cs : Array Value) (x : Value × Nat) => cs.setIfInBounds (i0 * sz + x.2) x.1) cs = cs1 := by
          rw [← Array.foldl_toList, Array.toList_zipIdx, hc]
        exact (congrArg (fun q => Instr.fill (fun i => some (i * sz, sz)) q (numberV (i0 + 1) vs)) e).trans h1
      · intro k j hj
        rw [h3 k j hj]
        by_cases hk : i0 + 1 ≤ k ∧ k < i0 + 1 + vs.length
        · rw [if_pos hk, if_pos (by simp; omega)]
          rw [show k - i0 = (k - (i0 + 1)) + 1 by omega]
          simp
        · rw [if_neg hk]
          have hf := fold_set c 0 (i0 * sz) cs (k * sz + j) (by rw [hcl]; omega)
          simp only [Nat.add_zero] at hf
          show cs1[k * sz + j]? = _
          rw [hf]
          by_cases hki : k = i0
          · subst hki
            rw [if_pos (by omega), if_pos (by simp)]
            have : k * sz + j - k * sz = j := by omega
            rw [this, List.getElem?_eq_getElem (by omega)]
            simp [hcl, hj]
          · have hne : ¬ (i0 * sz ≤ k * sz + j ∧ k * sz + j < i0 * sz + c.length) := by
              rw [hcl]
              rintro ⟨ha, hb⟩
              rcases Nat.lt_or_ge k i0 with h | h
              · have : (k + 1) * sz ≤ i0 * sz := Nat.mul_le_mul_right _ (by omega)
                rw [Nat.add_mul] at this; omega
              · have : (i0 + 1) * sz ≤ k * sz := Nat.mul_le_mul_right _ (by omega)
                rw [Nat.add_mul] at this; omega
            rw [if_neg hne, if_neg (by simp; omega)]

/-- A slice's literal, each element written. -/
theorem list_build {d t e sz len : Nat} {parts : Array (Nat × Operand)} {xs : List Operand} {vs : List Value} {css : List (List Value)} {zs : List Value} (H : Fr N L a) (hd : Nat.blt d N.n = true) (S : St w0 F0 R w) (ht : SlT P t e) (hs : Sz P e sz) (hz : Zero P e zs) (hzs : Nat.beq zs.length sz = true) (hpos : Nat.blt 0 sz = true)
    (hparts : parts.toList = numberO 0 xs) (hxs : evs L xs = some vs) (hlen : len = vs.length) (hlp : Nat.blt 0 len = true) (hcss : vs.map (fun v => v.cells.toList) = css) (hall : css.all (fun c => Nat.beq c.length sz) = true) (hsm : Nat.ble (len * sz) 16777216 = true)
    (k : ∀ A w' a', (0 < len → A = some ⟨(adr A).block, (adr A).off, none⟩) → St w0 F0 (ownM e sz A len len (fun k j => (css.getD k []).getD j undef) :: R) w' → Fr N ((d, .slice A len len) :: L) a' → wpList P ops Q rest a' w') :
    wpList P ops Q (⟨some d, .buildSlice t len parts, ty, pos, af, none⟩ :: rest) a w := by
  refine wpList_plain rfl fun K hK => ?_
  unfold Oper.wp
  have hzs' : zs.length = sz := Nat.eq_of_beq_eq_true hzs
  have hpos' : 0 < sz := by simpa using hpos
  have hsm' : len * sz ≤ 16777216 := by simpa using hsm
  have hlp' : 0 < len := by simpa using hlp
  unfold Zero at hz
  cases hi : P.info? e with
  | none => rw [hi] at hz; simp at hz
  | some i =>
    rw [hi] at hz
    simp at hz
    obtain ⟨z, hz1, hz2⟩ := hz
    obtain ⟨cs', hf1, hf2, hf3⟩ := fill_all (sz := sz) vs css 0 ((Array.range (len * sz)).map (z.cells[· % z.cells.size]!)) hcss (fun c hc => Nat.eq_of_beq_eq_true (by simpa using List.all_eq_true.1 hall c hc)) (by simp [← hlen])
    have hne : ¬ len * sz = 0 := by have := Nat.mul_pos hlp' hpos'; omega
    have hpv : (parts.map fun (p : Nat × Operand) => (p.1, a.eval p.2)).toList = numberV 0 vs := by
      rw [Array.toList_map, hparts]
      have key : ∀ (xs : List Operand) (vs : List Value) (i : Nat), evs L xs = some vs → (numberO i xs).map (fun (p : Nat × Operand) => (p.1, a.eval p.2)) = numberV i vs := by
        intro xs
        induction xs with
        | nil => intro vs i h; simp only [evs, Option.some.injEq] at h; subst h; rfl
        | cons x xs ih =>
          intro vs i h
          simp only [evs] at h
          split at h
          · rename_i v hv
            split at h
            · rename_i us hus
              simp only [Option.some.injEq] at h
              subst h
              simp only [numberO, numberV, List.map_cons, H.eval hv, ih _ _ hus]
            · cases h
          · cases h
      exact key xs vs 0 hxs
    have e1 : (execOp a.eval ⟨some d, .buildSlice t len parts, ty, pos, af, none⟩).run P w = .ok (.value (.slice (some ⟨w.heap.size, 0, none⟩) len len)) (w.alloc (.cells cs' e)) := by
      have hpv' : (parts.map fun (p : Nat × Operand) => (p.1, a.eval p.2)) = (numberV 0 vs).toArray := by rw [← hpv]
      simp only [execOp]
      have : (Instr.buildSlice t len (parts.map fun (p : Nat × Operand) => (p.1, a.eval p.2))).run P w = .ok (.slice (some ⟨w.heap.size, 0, none⟩) len len) (w.alloc (.cells cs' e)) := by
        rw [hpv']
        have hnl : ¬ (16777216 < len * sz) := by omega
        simp [Instr.buildSlice, run_und ht, hs.run, hnl, hne, zeroValue, typeInfo, hi, hz1, hf1, newRow, newObj, Sem.run]
      simp [this]
    rw [e1]
    refine hK _ _ (k (some ⟨w.heap.size, 0, none⟩) _ _ (fun _ => rfl) (S.alloc _ _ (.inr ⟨w.heap.size, cs', rfl, heap_alloc_new w _, Nat.le_refl _, ?_, ?_, ?_⟩) ?_) (H.put _ hd))
    · simp only [maxLen]
      have : len * 1 ≤ len * sz := Nat.mul_le_mul_left _ hpos'
      omega
    · rw [hf2]; simp
    · intro k' j' hk' hj'
      rw [hf3 k' j' hj', if_pos (by omega)]
      simp
    · rintro q ⟨_, h, rfl⟩; cases h; rfl

theorem list_build' {d t e sz len : Nat} {parts : Array (Nat × Operand)} {vs : List Value} {css : List (List Value)} {zs : List Value} (H : Fr N L a) (hd : Nat.blt d N.n = true) (S : St w0 F0 R w) (ht : SlT P t e) (hs : Sz P e sz) (hz : Zero P e zs) (hzs : Nat.beq zs.length sz = true) (hpos : Nat.blt 0 sz = true)
    (hparts : parts.toList = numberO 0 (parts.toList.map (·.2))) (hxs : evs L (parts.toList.map (·.2)) = some vs) (hlen : len = vs.length) (hlp : Nat.blt 0 len = true) (hcss : vs.map (fun v => v.cells.toList) = css) (hall : css.all (fun c => Nat.beq c.length sz) = true) (hsm : Nat.ble (len * sz) 16777216 = true)
    (k : ∀ A w' a', (0 < len → A = some ⟨(adr A).block, (adr A).off, none⟩) → St w0 F0 (ownM e sz A len len (fun k j => (css.getD k []).getD j undef) :: R) w' → Fr N ((d, .slice A len len) :: L) a' → wpList P ops Q rest a' w') :
    wpList P ops Q (⟨some d, .buildSlice t len parts, ty, pos, af, none⟩ :: rest) a w :=
  list_build H hd S ht hs hz hzs hpos hparts hxs hlen hlp hcss hall hsm k

/-! ## append -/
def flat (sz n : Nat) (cell : Nat → Nat → Value) : List Value := (List.range (n * sz)).map fun i => cell (i / sz) (i % sz)

theorem flat_get {sz n k j : Nat} {cell : Nat → Nat → Value} (hk : k < n) (hj : j < sz) : (flat sz n cell)[k * sz + j]? = some (cell k j) := by
  have hlt : k * sz + j < n * sz := by
    have : (k + 1) * sz ≤ n * sz := Nat.mul_le_mul_right _ (by omega)
    rw [Nat.add_mul] at this
    omega
  have h1 : (k * sz + j) / sz = k := by rw [Nat.add_comm, Nat.add_mul_div_right _ _ (by omega), Nat.div_eq_of_lt hj]; omega
  have h2 : (k * sz + j) % sz = j := by rw [Nat.add_comm, Nat.add_mul_mod_self_right, Nat.mod_eq_of_lt hj]
  simp [flat, hlt, h1, h2]

theorem owns_of {e sz n c : Nat} {A : Option Addr} {cell : Nat → Nat → Value} (hpos : 0 < sz) (h : (ownM e sz A n c cell).holds w) : w.ownsRow 0 e sz (.slice A n c) n (flat sz n cell) := by
  refine ⟨by simp [flat], ?_⟩
  rcases h with ⟨rfl, rfl, rfl⟩ | ⟨b, cs, rfl, hb, hnc, hcm, hsz, hc⟩
  · exact .inl ⟨rfl, rfl⟩
  · refine .inr ⟨b, c, cs, rfl, Nat.zero_le _, hb, hnc, hcm, hsz, ?_⟩
    apply List.ext_getElem?
    intro i
    have hle : n * sz ≤ cs.size := by rw [hsz]; exact Nat.mul_le_mul_right _ hnc
    rw [List.getElem?_take]
    by_cases hi : i < n * sz
    · rw [if_pos hi]
      have hk : i / sz < n := (Nat.div_lt_iff_lt_mul hpos).2 hi
      have hj : i % sz < sz := Nat.mod_lt _ hpos
      have he : i / sz * sz + i % sz = i := by rw [Nat.mul_comm]; exact Nat.div_add_mod i sz
      have h1 := hc (i / sz) (i % sz) hk hj
      have h2 := flat_get (cell := cell) hk hj
      rw [he] at h1 h2
      rw [h2, ← h1]
      simp
    · rw [if_neg hi, List.getElem?_eq_none (by simp [flat]; omega)]

theorem of_owns {e sz n : Nat} {v : Value} {xs : List Value} {cell : Nat → Nat → Value} (h : w.ownsRow 0 e sz v n xs) (hx : ∀ k j, k < n → j < sz → xs[k * sz + j]? = some (cell k j)) :
    ∃ A c, v = .slice A n c ∧ (ownM e sz A n c cell).holds w ∧ v.ownBlock = A.map (·.block) := by
  rcases h.2 with ⟨rfl, rfl⟩ | ⟨g, cap, cur, rfl, _, hg, hnc, hcm, hsz, htake⟩
  · exact ⟨none, 0, rfl, .inl ⟨rfl, rfl, rfl⟩, rfl⟩
  · refine ⟨some ⟨g, 0, none⟩, cap, rfl, .inr ⟨g, cur, rfl, hg, hnc, hcm, hsz, ?_⟩, rfl⟩
    intro k j hk hj
    have h1 := hx k j hk hj
    have hlt : k * sz + j < n * sz := by
      have : (k + 1) * sz ≤ n * sz := Nat.mul_le_mul_right _ (by omega)
      rw [Nat.add_mul] at this
      omega
    rw [← htake, List.getElem?_take, if_pos hlt] at h1
    simpa using h1

theorem run_app_nil (base : Nat) (t ty e : TypeId) (i : TypeInfo) (size : Nat) (ht : P.underlying t = some (.slice e)) (hi : P.info? e = some i)
    (v : Value) (n : Nat) (xs : List Value) (hown : w.ownsRow base e size v n xs) (A : Option Addr) (hA : A = none) (c : Nat) : (Builtin.append_ #[t, t] ty #[v, .slice A 0 c]).run P w = .ok v w := by
  subst hA
  rcases hown.2 with ⟨rfl, rfl⟩ | ⟨g, cap, cur, rfl, _, _, hnc, _⟩
  · simp [Builtin.append_, run_underlying ht, sizeOf, typeInfo, hi, Builtin.lenOf, Builtin.firstCells]
  · simp [Builtin.append_, run_underlying ht, sizeOf, typeInfo, hi, Builtin.lenOf, Builtin.firstCells, hnc, storeCells]

/-- The cells of an appended slice. -/
def capp (n : Nat) (cell cell' : Nat → Nat → Value) : Nat → Nat → Value := fun k j => if k < n then cell k j else cell' (k - n) j

theorem run_app {t e sz by_ : Nat} {zs : List Value} {A B : Option Addr} {n c m c' : Nat} {cell cell' : Nat → Nat → Value} (ht : SlT P t e) (hs : Sz P e sz) (hz : Zero P e zs) (hby : Bytes P e by_) (hzs : zs.length = sz) (hpos : 0 < sz)
    (h : (ownM e sz A n c cell).holds w) (hB : InS w noF sz B m cell') (hone : ∀ k j, k < m → j < sz → (cell' k j).oneCell' = true) (hlen : (n + m) * by_ ≤ 140737488355328) (hlen2 : n + m ≤ 9223372036854775807) (ty : TypeId) :
    ∃ A' c1 w', (Builtin.append_ #[t, t] ty #[.slice A n c, .slice B m c']).run P w = .ok (.slice A' (n + m) c1) w' ∧ (ownM e sz A' (n + m) c1 (capp n cell cell')).holds w' ∧ Keeps w w' (ownM e sz A n c cell).fp ∧
      (∀ k, (ownM e sz A' (n + m) c1 (capp n cell cell')).fp k → (ownM e sz A n c cell).fp k ∨ (w.heap.size ≤ k ∧ k < w'.heap.size)) := by
  unfold Zero at hz
  unfold Sz at hs
  unfold Bytes at hby
  have hown := owns_of hpos h
  have hfl : ∀ k j, k < n + m → j < sz → (flat sz n cell ++ flat sz m cell')[k * sz + j]? = some (capp n cell cell' k j) := by
    intro k j hk hj
    have hl : (flat sz n cell).length = n * sz := by simp [flat]
    unfold capp
    by_cases hkn : k < n
    · rw [if_pos hkn]
      have hlt : k * sz + j < n * sz := by
        have : (k + 1) * sz ≤ n * sz := Nat.mul_le_mul_right _ (by omega)
        rw [Nat.add_mul] at this
        omega
      rw [List.getElem?_append_left (by omega)]
      exact flat_get hkn hj
    · rw [if_neg hkn]
      have hge : n * sz ≤ k * sz := Nat.mul_le_mul_right _ (by omega)
      rw [List.getElem?_append_right (by omega), hl]
      have : k * sz + j - n * sz = (k - n) * sz + j := by rw [Nat.sub_mul]; omega
      rw [this]
      exact flat_get (by omega) hj
  cases hi : P.info? e with
  | none => rw [hi] at hz; simp at hz
  | some i =>
    rw [hi] at hz hs hby
    simp at hz hs hby
    obtain ⟨z, hz1, hz2⟩ := hz
    have hzsz : z.cells.size = sz := by rw [← hzs, ← hz2]; simp
    have hblk : (Value.slice A n c).ownBlock = A.map (·.block) := by cases A <;> rfl
    rcases B with _ | ad
    · have hm : m = 0 := by
        rcases Nat.eq_zero_or_pos m with h0 | h0
        · exact h0
        · obtain ⟨b, o, hA, _⟩ := hB h0; cases hA
      subst hm
      have hr := run_app_nil (P := P) (w := w) 0 t ty e i sz ht hi _ n _ hown none rfl c'
      refine ⟨A, c, w, hr, ?_, Keeps.refl _ _, fun k hk => .inl hk⟩
      rcases h with ⟨h1, h2, h3⟩ | ⟨b, cs, h1, h2, h3, h4, h5, h6⟩
      · exact .inl ⟨h1, h2, h3⟩
      · exact .inr ⟨b, cs, h1, h2, h3, h4, h5, fun k j hk hj => by rw [h6 k j hk hj]; simp [capp]; intro hh; omega⟩
    · have hnews : ∀ (j : Nat) u, (flat sz m cell')[j]? = some u → w.cell? (ad.add j) = some u := by
        intro j u hu
        have hjl : j < m * sz := by
          have := (List.getElem?_eq_some_iff.1 hu).1
          simpa [flat] using this
        have hm0 : 0 < m := by
          rcases Nat.eq_zero_or_pos m with h0 | h0
          · subst h0; omega
          · exact h0
        obtain ⟨b, o, hA, _, _, hc⟩ := hB hm0
        injection hA with hA
        subst hA
        rw [add_lit]
        have hk : j / sz < m := (Nat.div_lt_iff_lt_mul hpos).2 hjl
        have hj : j % sz < sz := Nat.mod_lt _ hpos
        have he : j / sz * sz + j % sz = j := by rw [Nat.mul_comm]; exact Nat.div_add_mod j sz
        have h1 := hc _ _ hk hj
        have h2 := flat_get (cell := cell') hk hj
        rw [he, hu, Option.some.injEq] at h2
        rw [Nat.add_assoc, he] at h1
        rw [h1, h2]
      have hone' : ∀ u ∈ flat sz m cell', u.oneCell' = true := by
        intro u hu
        simp only [flat, List.mem_map, List.mem_range] at hu
        obtain ⟨q, hq, rfl⟩ := hu
        exact hone _ _ ((Nat.div_lt_iff_lt_mul hpos).2 hq) (Nat.mod_lt _ hpos)
      obtain ⟨v', w', h1, h2, h3, _, h5⟩ := run_append_own_at (P := P) w 0 t ty e i z sz by_ ht hi hz1 hs hby hzsz hpos _ n _ hown ad m c' (flat sz m cell') (by simp [flat]) hnews hone' (by simp only [maxLen]; omega) hlen (Nat.zero_le _)
      obtain ⟨A', c1, rfl, h6, h7⟩ := of_owns (cell := capp n cell cell') h2 hfl
      refine ⟨A', c1, w', h1, h6, ?_, ?_⟩
      · refine (Keeps.of_grown h3).mono fun k hk => ?_
        cases A with
        | none => cases hk
        | some aa => exact ⟨aa, rfl, by simpa [Value.ownBlock] using hk⟩
      · rintro k ⟨aa, rfl, rfl⟩
        rcases h5 with h5 | h5
        · rw [hblk] at h5
          cases A with
          | none => simp [Value.ownBlock] at h5
          | some a0 =>
            refine .inl ⟨a0, rfl, ?_⟩
            simpa [Value.ownBlock] using h5.symm
        · refine .inr ?_
          have e1 : aa.block = w.heap.size := by simpa [Value.ownBlock] using h5
          have e2 := h2.lt aa.block (by simp [Value.ownBlock])
          exact ⟨by omega, e2.2⟩

/-- append(s, x...) onto an owned slice. -/
theorem list_append {d t e sz by_ i n c m c' : Nat} {x y : Operand} {zs : List Value} {A B : Option Addr} {cell cell' : Nat → Nat → Value} (H : Fr N L a) (hd : Nat.blt d N.n = true) (S : St w0 F0 R w) (ht : SlT P t e) (hs : Sz P e sz) (hz : Zero P e zs) (hby : Bytes P e by_) (hzs : Nat.beq zs.length sz = true) (hpos : Nat.blt 0 sz = true)
    (hi : R[i]? = some (ownM e sz A n c cell)) (hx : ev L x = some (.slice A n c)) (hy : ev L y = some (.slice B m c')) (hB : InS w noF sz B m cell') (hone : ∀ k j, k < m → j < sz → (cell' k j).oneCell' = true)
    (hlen : (n + m) * by_ ≤ 140737488355328)  (hlen2 : n + m ≤ 9223372036854775807)
    (k : ∀ A' c1 w' a', St w0 F0 (R.set i (ownM e sz A' (n + m) c1 (capp n cell cell'))) w' → Fr N ((d, .slice A' (n + m) c1) :: L) a' → wpList P ops Q rest a' w') :
    wpList P ops Q (⟨some d, .call ⟨.builtin .append, #[x, y], #[t, t]⟩, ty, pos, af, none⟩ :: rest) a w := by
  refine wpList_plain rfl fun K hK => ?_
  unfold Oper.wp
  obtain ⟨A', c1, w', h1, h2, h3, h4⟩ := run_app (P := P) (w := w) (c' := c') ht hs hz hby (Nat.eq_of_beq_eq_true hzs) (by simpa using hpos) (S.holds hi) hB hone hlen hlen2 ty
  have e1 : (execOp a.eval ⟨some d, .call ⟨.builtin .append, #[x, y], #[t, t]⟩, ty, pos, af, none⟩).run P w = .ok (.value (.slice A' (n + m) c1)) w' := by
    simp [execOp, resolve, H.eval hx, H.eval hy, invoke, builtin, h1]
  rw [e1]
  exact hK _ _ (k A' c1 _ _ (S.upd hi h3 h2 h4) (H.put _ hd))

/-! ## more operations that read: whole parts, literals of structs and arrays, conversions -/
theorem boxAgg {i b : Nat} {t : TypeId} {cs : List Value} (S : St w0 F0 R w) (hi : R[i]? = some (boxM b t cs)) : ∀ (j : Nat) v, cs[j]? = some v → w.cell? ⟨b, 0 + j, none⟩ = some v := by
  intro j v hv
  rw [Nat.zero_add]
  exact boxM.rd S hi hv

section
variable {d : Option Nat} {g : Option (Nat × Bool)}

theorem does_loadBox {x : Operand} {t n b o i : Nat} {bt : TypeId} {cs : List Value} (hA : Agg P t) (hs : Sz P t n) (hx : ev L x = some (.pointer (some ⟨b, o, none⟩))) (S : St w0 F0 R w) (hi : R[i]? = some (boxM b bt cs)) (hle : Nat.ble (o + n) cs.length = true) :
    Does P L ⟨d, .load t x, ty, pos, af, g⟩ w (.agg ((cs.drop o).take n).toArray) := by
  have hle' : o + n ≤ cs.length := by simpa using hle
  refine does_loadAgg hA (by have : ((cs.drop o).take n).length = n := by simp; omega
                             rw [this]; exact hs) hx fun j v hv => ?_
  refine boxM.rd S hi ?_
  rw [List.getElem?_take] at hv
  split at hv
  · rw [List.getElem?_drop] at hv; exact hv
  · cases hv

def cellsOf (cell : Nat → Nat → Value) (k : Nat) : Nat → Nat → List Value
  | _, 0 => []
  | j, n + 1 => cell k j :: cellsOf cell k (j + 1) n

theorem cellsOf_len (cell : Nat → Nat → Value) (k : Nat) : ∀ (n j : Nat), (cellsOf cell k j n).length = n := by
  intro n; induction n with
  | zero => intro j; rfl
  | succ n ih => intro j; simp [cellsOf, ih]

theorem cellsOf_get (cell : Nat → Nat → Value) (k : Nat) : ∀ (n j i : Nat), i < n → (cellsOf cell k j n)[i]? = some (cell k (j + i)) := by
  intro n; induction n with
  | zero => intro j i h; omega
  | succ n ih =>
    intro j i h
    cases i with
    | zero => rfl
    | succ i =>
      simp only [cellsOf, List.getElem?_cons_succ]
      rw [ih (j + 1) i (by omega)]
      congr 2; omega

theorem does_loadIn {x : Operand} {t n sz k j m : Nat} {A : Option Addr} {cell : Nat → Nat → Value} (hA : Agg P t) (hs : Sz P t n) (hx : ev L x = some (.pointer (some (pt A sz k j)))) (S : St w0 F0 R w) (hl : InS w0 F0 sz A m cell) (hk : k < m) (hj : j + n ≤ sz) :
    Does P L ⟨d, .load t x, ty, pos, af, g⟩ w (.agg (cellsOf cell k j n).toArray) := by
  refine does_loadAgg hA (by rw [cellsOf_len]; exact hs) hx fun i v hv => ?_
  have hin : i < n := by have := (List.getElem?_eq_some_iff.1 hv).1; rw [cellsOf_len] at this; exact this
  rw [cellsOf_get cell k n j i hin, Option.some.injEq] at hv
  rw [← hv, Nat.add_assoc]
  exact hl.rd S hk (by omega)

theorem does_loadOwn {x : Operand} {t n sz k j m c i : Nat} {e : TypeId} {A : Option Addr} {cell : Nat → Nat → Value} (hA : Agg P t) (hs : Sz P t n) (hx : ev L x = some (.pointer (some (pt A sz k j)))) (S : St w0 F0 R w) (hi : R[i]? = some (ownM e sz A m c cell)) (hk : k < m) (hj : j + n ≤ sz) :
    Does P L ⟨d, .load t x, ty, pos, af, g⟩ w (.agg (cellsOf cell k j n).toArray) := by
  refine does_loadAgg hA (by rw [cellsOf_len]; exact hs) hx fun q v hv => ?_
  have hin : q < n := by have := (List.getElem?_eq_some_iff.1 hv).1; rw [cellsOf_len] at this; exact this
  rw [cellsOf_get cell k n j q hin, Option.some.injEq] at hv
  rw [← hv, Nat.add_assoc]
  exact ownM.rd S hi hk (by omega)

theorem run_indexArr {t e sz len b o : Nat} {k : IntKind} {i : Int} (hu : P.underlying t = some (.array len e)) (hs : Sz P e sz) (h0 : 0 ≤ i) (hn : i < len) :
    (Instr.indexAt t (.pointer (some ⟨b, o, none⟩)) (.int k i)).run P w = .ok (.pointer (some ⟨b, o + i.toNat * sz, none⟩)) w := by
  simp [Instr.indexAt, asIntOf, run_und hu, h0, hn, hs.run, Instr.sureAddr, add_lit]

theorem does_indexArr {x i : Operand} {t e sz len b o : Nat} {k : IntKind} {j : Int} (hu : P.underlying t = some (.array len e)) (hs : Sz P e sz) (hx : ev L x = some (.pointer (some ⟨b, o, none⟩))) (hi : ev L i = some (.int k j)) (h0 : 0 ≤ j) (hn : j < len) :
    Does P L ⟨d, .indexAddr t x i, ty, pos, af, g⟩ w (.pointer (some ⟨b, o + j.toNat * sz, none⟩)) := fun ρ hρ => by
  simp [execOp, hρ _ _ hx, hρ _ _ hi, run_indexArr hu hs h0 hn]

/-- An element of an array's value. -/
theorem does_indexV {x i : Operand} {t e sz len : Nat} {k : IntKind} {j : Int} {cs : Array Value} {v : Value} (hu : P.underlying t = some (.array len e)) (hs : Sz P e sz) (hx : ev L x = some (.agg cs)) (hi : ev L i = some (.int k j)) (h0 : 0 ≤ j) (hn : j < len) (h1 : One P e) (hv : cs[j.toNat * sz]? = some v) :
    Does P L ⟨d, .index t x i, ty, pos, af, g⟩ w v := fun ρ hρ => by
  simp [execOp, hρ _ _ hx, hρ _ _ hi, Instr.index, asIntOf, run_und hu, h0, hn, hs.run, part, h1.run, hv]
theorem does_indexVA {x i : Operand} {t e sz len : Nat} {k : IntKind} {j : Int} {cs : List Value} {vs : List Value} (hu : P.underlying t = some (.array len e)) (hs : Sz P e sz) (hA : Agg P e) (hx : ev L x = some (.agg cs.toArray)) (hi : ev L i = some (.int k j)) (h0 : 0 ≤ j) (hn : j < len) (hv : (cs.drop (j.toNat * sz)).take sz = vs) :
    Does P L ⟨d, .index t x i, ty, pos, af, g⟩ w (.agg vs.toArray) := fun ρ hρ => by
  simp [execOp, hρ _ _ hx, hρ _ _ hi, Instr.index, asIntOf, run_und hu, h0, hn, hs.run, part, hA.run]
  exact hv

def fillL (place : List (Nat × Nat)) : List Value → List (Nat × List Value) → Option (List Value)
  | cs, [] => some cs
  | cs, (i, vs) :: rest => match place[i]? with
    | none => none
    | some (off, size) => bif Nat.beq vs.length size && Nat.ble (off + vs.length) cs.length then fillL place (splice cs off vs) rest else none

theorem fold_splice (cs : Array Value) (off : Nat) (v : Value) (h : off + v.cells.toList.length ≤ cs.size) :
    v.cells.zipIdx.foldl (fun (cs : Array Value) (x : Value × Nat) => cs.setIfInBounds (off + x.2) x.1) cs = (splice cs.toList off v.cells.toList).toArray := by
  have e : v.cells.zipIdx.foldl (fun (cs : Array Value) (x : Value × Nat) => cs.setIfInBounds (off + x.2) x.1) cs = (v.cells.toList.zipIdx 0).foldl (fun (cs : Array Value) (p : Value × Nat) => cs.setIfInBounds (off + p.2) p.1) cs := by
    rw [← Array.foldl_toList, Array.toList_zipIdx]
  rw [e]
  apply Array.ext_getElem?
  intro i
  have hf := fold_set v.cells.toList 0 off cs i (by omega)
  rw [hf, splice_eq _ _ _ (by simpa using h)]
  simp only [Nat.add_zero, List.getElem?_toArray]
  by_cases h1 : off ≤ i ∧ i < off + v.cells.toList.length
  · rw [if_pos h1, List.append_assoc, List.getElem?_append_right (by simp; omega)]
    simp only [List.length_take, Array.length_toList]
    rw [Nat.min_eq_left (by omega), List.getElem?_append_left (by simp at h1 ⊢; omega)]
  · rw [if_neg h1]
    rcases Nat.lt_or_ge i off with h2 | h2
    · rw [List.append_assoc, List.getElem?_append_left (by simp; omega), List.getElem?_take_of_lt h2]; simp
    · have h3 : off + v.cells.toList.length ≤ i := by omega
      rw [List.getElem?_append_right (by simp at h3 ⊢; omega), List.getElem?_drop]
      simp only [List.length_append, List.length_take, Array.length_toList]
      simp at h h3
      rw [Nat.min_eq_left (by omega), show off + v.cells.size + (i - (off + v.cells.size)) = i by omega]
      simp

theorem fill_eq (place : List (Nat × Nat)) (f : Nat → Option (Nat × Nat)) (hf : ∀ i p, place[i]? = some p → f i = some p) : ∀ (parts : List (Nat × Value)) (cs cs' : List Value), fillL place cs (parts.map fun p => (p.1, p.2.cells.toList)) = some cs' →
    Instr.fill f cs.toArray parts = some cs'.toArray := by
  intro parts
  induction parts with
  | nil => intro cs cs' h; simp only [List.map_nil, fillL, Option.some.injEq] at h; subst h; rfl
  | cons p parts ih =>
    intro cs cs' h
    obtain ⟨i, v⟩ := p
    simp only [List.map_cons, fillL] at h
    simp only [Instr.fill]
    cases hp : place[i]? with
    | none => rw [hp] at h; cases h
    | some q =>
      obtain ⟨off, size⟩ := q
      rw [hp] at h
      rw [hf i _ hp]
      simp only at h ⊢
      cases hc : (Nat.beq v.cells.toList.length size && Nat.ble (off + v.cells.toList.length) cs.length)
      · rw [hc] at h; cases h
      · rw [hc] at h
        simp only [cond_true] at h
        simp only [Bool.and_eq_true] at hc
        have h1 : v.cells.size = size := by have := Nat.eq_of_beq_eq_true hc.1; simpa using this
        have h2 : off + v.cells.toList.length ≤ cs.length := by have := hc.2; simpa using this
        have hne : ¬ ((decide (v.cells.size ≠ size) || decide (off + v.cells.size > cs.toArray.size)) = true) := by
          simp [h1]; simp at h2; omega
        rw [if_neg hne, fold_splice _ _ _ (by simpa using h2)]
        exact ih _ _ h

def BuildT (P : Program) (t : Nat) (place : List (Nat × Nat)) (zs : List Value) : Prop :=
  Zero P t zs ∧ match P.underlying t with
    | some (.struct fs) => fs.toList.map (fun f => (f.offset, ((P.info? f.type).map (·.size)).getD 0)) = place ∧ (fs.toList.all fun f => (P.info? f.type).isSome) = true
    | some (.array n e) => ((P.info? e).map (·.size)).isSome = true ∧ (List.range n).map (fun i => (i * ((P.info? e).map (·.size)).getD 0, ((P.info? e).map (·.size)).getD 0)) = place ∧ place.length = n
    | _ => False

def partsEv (L : List (Nat × Value)) : List (Nat × Operand) → Option (List (Nat × List Value))
  | [] => some []
  | (i, x) :: r => match ev L x with
    | some v => match partsEv L r with
      | some q => some ((i, v.cells.toList) :: q)
      | none => none
    | none => none

theorem partsEv_eq {ρ : Operand → Value} (hρ : ∀ x u, ev L x = some u → ρ x = u) : ∀ (l : List (Nat × Operand)) (pv : List (Nat × List Value)), partsEv L l = some pv → (l.map fun p => (p.1, ρ p.2)).map (fun p => (p.1, p.2.cells.toList)) = pv := by
  intro l
  induction l with
  | nil => intro pv h; simp only [partsEv, Option.some.injEq] at h; subst h; rfl
  | cons p l ih =>
    intro pv h
    obtain ⟨i, x⟩ := p
    simp only [partsEv] at h
    split at h
    · rename_i v hv
      split at h
      · rename_i q hq
        simp only [Option.some.injEq] at h
        subst h
        simp only [List.map_cons, hρ _ _ hv, ih _ hq]
      · cases h
    · cases h

theorem run_sizes : ∀ (l : List Field), (l.all fun f => (P.info? f.type).isSome) = true →
    (l.mapM (m := Sem) fun f => do pure (f.offset, ← sizeOf f.type)).run P w = .ok (l.map (fun f => (f.offset, ((P.info? f.type).map (·.size)).getD 0))) w := by
  intro l
  induction l with
  | nil => intro _; simp
  | cons f l ih =>
    intro h
    simp only [List.all_cons, Bool.and_eq_true] at h
    cases hi : P.info? f.type with
    | none => rw [hi] at h; simp at h
    | some i =>
      have hs : (sizeOf f.type).run P w = .ok i.size w := by simp [sizeOf, typeInfo, hi]
      rw [List.mapM_cons]
      simp only [Sem.run_bind, hs, Result.andThen_ok, Sem.run_pure, ih h.2, List.map_cons, hi, Option.map_some, Option.getD_some]

theorem does_build {t : Nat} {parts : Array (Nat × Operand)} {place : List (Nat × Nat)} {zs cs : List Value} {pv : List (Nat × List Value)} (hb : BuildT P t place zs) (hp : partsEv L parts.toList = some pv) (hf : fillL place zs pv = some cs) :
    Does P L ⟨d, .build t parts, ty, pos, af, g⟩ w (.agg cs.toArray) := fun ρ hρ => by
  obtain ⟨hz, hb⟩ := hb
  have hpe := partsEv_eq hρ _ _ hp
  have hfe := fun f hff => fill_eq place f hff ((parts.toList.map fun p => (p.1, ρ p.2))) zs cs (by rw [hpe]; exact hf)
  have hpa : (parts.map fun (p : Nat × Operand) => (p.1, ρ p.2)).toList = parts.toList.map fun p => (p.1, ρ p.2) := by simp
  unfold Zero at hz
  cases hi : P.info? t with
  | none => rw [hi] at hz; simp at hz
  | some i =>
    rw [hi] at hz
    simp at hz
    obtain ⟨z, hz1, hz2⟩ := hz
    have hz3 : z.cells = zs.toArray := by rw [← hz2, Array.toArray_toList]
    cases hu : P.underlying t with
    | none => rw [hu] at hb; exact hb.elim
    | some dsc =>
      rw [hu] at hb
      have key : (Instr.build t (parts.map fun (p : Nat × Operand) => (p.1, ρ p.2))).run P w = .ok (.agg cs.toArray) w := by
        cases dsc with
        | struct fs =>
          obtain ⟨h1, h2⟩ := hb
          have hm : (fs.mapM (m := Sem) fun f => do pure (f.offset, ← sizeOf f.type)).run P w = .ok place.toArray w := by
            rw [Array.mapM_eq_mapM_toList]
            have := run_sizes (P := P) (w := w) fs.toList h2
            simp only [map_eq_pure_bind, Sem.run_bind, this, h1]
            simp
          have hfe' : Instr.fill (fun i => place.toArray[i]?) zs.toArray (parts.map fun (p : Nat × Operand) => (p.1, ρ p.2)).toList = some cs.toArray := by
            rw [hpa]
            exact hfe _ (fun i p h => by simpa using h)
          simp only [Instr.build, zeroValue, typeInfo, Sem.run_bind, run_program, Result.andThen_ok, hi, Sem.run_pure, hz1, run_und hu, hm, hz3]
          simp only [hfe']
          simp
        | array n e =>
          obtain ⟨h1, h2, h3⟩ := hb
          cases he : P.info? e with
          | none => rw [he] at h1; simp at h1
          | some ie =>
            have hs : (sizeOf e).run P w = .ok ie.size w := by simp [sizeOf, typeInfo, he]
            have hfe' : Instr.fill (fun i => some (i * ie.size, ie.size)) zs.toArray (parts.map fun (p : Nat × Operand) => (p.1, ρ p.2)).toList = some cs.toArray := by
              rw [hpa]
              refine hfe _ (fun i p h => ?_)
              rw [← h2, he] at h
              simp only [List.getElem?_map, Option.map_some, Option.getD_some] at h
              cases hr : (List.range n)[i]? with
              | none => rw [hr] at h; cases h
              | some q =>
                rw [hr] at h
                have hq : q = i := by
                  have := List.getElem?_eq_some_iff.1 hr
                  obtain ⟨hh, hh2⟩ := this
                  simp at hh2
                  exact hh2.symm
                subst hq
                exact h
            simp only [Instr.build, zeroValue, typeInfo, Sem.run_bind, run_program, Result.andThen_ok, hi, Sem.run_pure, hz1, run_und hu, hs, hz3]
            simp only [hfe']
            simp
        | _ => exact hb.elim
      simp only [execOp]
      have e2 : (parts.map fun x => match x with | (i, x) => (i, ρ x)) = (parts.map fun (p : Nat × Operand) => (p.1, ρ p.2)) := rfl
      simp [e2, key]
end

/-! ## loops and meeting ways, with the memory's parts -/
theorem loop_st {c : Code} {X : Type} {L0 : List (Nat × Value)} {R0 : List Mem} (ks : List Nat) (H : Fr N L a) (_hk : pick ks L = some L0) (F : X → List (Nat × Value)) (M : X → List Mem) (Pr : Nat → X → Prop)
    (n0 : Nat) (x0 : X) (h0 : Pr n0 x0) (S0 : St w0 F0 (M x0 ++ R0) w) (H0 : Fr N (F x0 ++ L0) a)
    (round : ∀ g x a w, Pr g x → St w0 F0 (M x ++ R0) w → Fr N (F x ++ L0) a → ∀ K : Act → World → Prop, (∀ g' x' a' w', g' < g → Pr g' x' → St w0 F0 (M x' ++ R0) w' → Fr N (F x' ++ L0) a' → K a' w') → c.wp P (Exit.then K Q) a w) :
    (Code.loop c).wp P Q a w :=
  loop_ (fun g a w => ∃ x, Pr g x ∧ St w0 F0 (M x ++ R0) w ∧ Fr N (F x ++ L0) a) n0 ⟨x0, h0, S0, H0⟩
    fun g a w ⟨x, hp, S, H⟩ K hK => round g x a w hp S H K fun g' x' a' w' hlt hp' S' H' => hK g' a' w' hlt ⟨x', hp', S', H'⟩

theorem meet_st {x y : Code} {X : Type} {L0 : List (Nat × Value)} {R0 : List Mem} (ks : List Nat) (H : Fr N L a) (_hk : pick ks L = some L0) (F : X → List (Nat × Value)) (M : X → List Mem) (Pr : X → Prop)
    (h1 : ∀ K : Act → World → Prop, (∀ x a' w', Pr x → St w0 F0 (M x ++ R0) w' → Fr N (F x ++ L0) a' → K a' w') → x.wp P (Exit.then K Q) a w)
    (h2 : ∀ x a' w', Pr x → St w0 F0 (M x ++ R0) w' → Fr N (F x ++ L0) a' → y.wp P Q a' w') : (Code.seq x y).wp P Q a w :=
  seq_meet (fun a w => ∃ x, Pr x ∧ St w0 F0 (M x ++ R0) w ∧ Fr N (F x ++ L0) a) (fun K hK => h1 K fun x a' w' hp S' H' => hK a' w' ⟨x, hp, S', H'⟩) fun a w ⟨x, hp, S', H'⟩ => h2 x a w hp S' H'

theorem meet_sr {x y : Code} {X : Type} {L0 : List (Nat × Value)} {R0 : List Mem} (ks : List Nat) (H : Fr N L a) (_hk : pick ks L = some L0) (F : X → List (Nat × Value)) (M : X → List Mem) (Pr : X → Prop)
    (_SR : St w0 F0 R0 w)
    (h1 : ∀ K : Act → World → Prop, (∀ x a' w', Pr x → St w0 F0 (M x ++ R0) w' → Fr N (F x ++ L0) a' → K a' w') → x.wp P (Exit.then K Q) a w)
    (h2 : ∀ x a' w', Pr x → St w0 F0 (M x ++ R0) w' → Fr N (F x ++ L0) a' → y.wp P Q a' w') : (Code.seq x y).wp P Q a w :=
  seq_meet (fun a w => ∃ x, Pr x ∧ St w0 F0 (M x ++ R0) w ∧ Fr N (F x ++ L0) a) (fun K hK => h1 K fun x a' w' hp S' H' => hK a' w' ⟨x, hp, S', H'⟩) fun a w ⟨x, hp, S', H'⟩ => h2 x a w hp S' H'
end
end Go.Proofs.Ytlmddkekeoebcaa
