/- What single operations yield: those that read at the most. -/
import Derived.Test.YtlmddkekeoebcaaMem
import Derived.IntWalk
namespace Go.Proofs.Ytlmddkekeoebcaa
set_option linter.unusedVariables false
set_option linter.unusedSimpArgs false
open Go.RowKit

/-! ## facts on types -/
def Sz (P : Program) (t n : Nat) : Prop := (P.info? t).map (·.size) = some n
def SlT (P : Program) (t e : Nat) : Prop := P.underlying t = some (.slice e)
def FOff (P : Program) (t f off : Nat) : Prop := ∃ fs fd, P.underlying t = some (.struct fs) ∧ fs[f]? = some fd ∧ fd.offset = off ∧ (match (P.info? fd.type).map (·.size) with | some n => Nat.blt 0 n | none => false) = true
def isRowB (d : Option TypeDesc) : Option Bool := match d with
  | some (.struct _) => some true
  | some (.array _ _) => some true
  | some _ => some false
  | none => none
def One (P : Program) (t : Nat) : Prop := isRowB (P.underlying t) = some false
def Agg (P : Program) (t : Nat) : Prop := isRowB (P.underlying t) = some true

section
variable {P : Program} {w : World}

theorem run_und {t : TypeId} {d : TypeDesc} (h : P.underlying t = some d) : (underlying t).run P w = .ok d w := run_underlying h w

theorem Sz.run {t n : Nat} (h : Sz P t n) : (sizeOf t).run P w = .ok n w := by
  unfold Sz at h
  cases hi : P.info? t with
  | none => rw [hi] at h; simp at h
  | some i => rw [hi] at h; simp at h; simp [sizeOf, typeInfo, hi, h]

theorem One.run {t : Nat} (h : One P t) : (isAgg t).run P w = .ok false w := by
  unfold One at h
  cases hu : P.underlying t with
  | none => rw [hu] at h; simp [isRowB] at h
  | some d =>
    rw [hu] at h
    cases d <;> simp [isRowB] at h <;> simp [isAgg, run_und hu]

theorem Agg.run {t : Nat} (h : Agg P t) : (isAgg t).run P w = .ok true w := by
  unfold Agg at h
  cases hu : P.underlying t with
  | none => rw [hu] at h; simp [isRowB] at h
  | some d =>
    rw [hu] at h
    cases d <;> simp [isRowB] at h <;> simp [isAgg, run_und hu]

theorem run_load1 {t : Nat} {a : Addr} {v : Value} (h1 : One P t) (h : w.cell? a = some v) : (Instr.loadAt t (.pointer (some a))).run P w = .ok v w := by
  simp [Instr.loadAt, Instr.sureAddr, loadVar, h1.run, load, Sem.run, h]

theorem add_lit (b o n : Nat) : (⟨b, o, none⟩ : Addr).add n = ⟨b, o + n, none⟩ := by
  unfold Addr.add; split <;> simp_all

theorem run_loadAgg {t : Nat} {b o : Nat} {vs : List Value} (h1 : Agg P t) (hs : Sz P t vs.length) (h : ∀ (j : Nat) v, vs[j]? = some v → w.cell? ⟨b, o + j, none⟩ = some v) :
    (Instr.loadAt t (.pointer (some ⟨b, o, none⟩))).run P w = .ok (.agg vs.toArray) w := by
  have hl := run_loadCells_list (P := P) w ⟨b, o, none⟩ vs (fun j v hv => by rw [add_lit]; exact h j v hv)
  simp [Instr.loadAt, Instr.sureAddr, loadVar, h1.run, hs.run, hl]

theorem run_fieldAt {t f off b o : Nat} (h : FOff P t f off) : (Instr.fieldAt t (.pointer (some ⟨b, o, none⟩)) f).run P w = .ok (.pointer (some ⟨b, o + off, none⟩)) w := by
  obtain ⟨fs, fd, hu, hf, rfl, hn⟩ := h
  cases hi : P.info? fd.type with
  | none => rw [hi] at hn; simp at hn
  | some i =>
    rw [hi] at hn
    simp at hn
    have hne : i.size ≠ 0 := by omega
    simp [Instr.fieldAt, run_und hu, hf, Instr.sureAddr, fieldPlace, sizeOf, typeInfo, hi, hne, add_lit]
end

section
variable {P : Program} {L : List (Nat × Value)} {w : World} {ty : TypeId} {pos : String} {af : Array Edge} {d : Option Nat} {g : Option (Nat × Bool)}

theorem does_move {x : Operand} {v : Value} (h : ev L x = some v) : Does P L ⟨d, .move x, ty, pos, af, g⟩ w v := fun ρ hρ => by
  simp [execOp, hρ x v h]
theorem does_assign {x : Operand} {v : Value} (h : ev L x = some v) : Does P L ⟨d, .assign x, ty, pos, af, g⟩ w v := fun ρ hρ => by
  simp [execOp, hρ x v h]
theorem does_pick {c x y : Operand} {b : Bool} {u v : Value} (hc : ev L c = some (.bool b)) (hx : ev L x = some u) (hy : ev L y = some v) : Does P L ⟨d, .pick c x y, ty, pos, af, g⟩ w (bif b then u else v) := fun ρ hρ => by
  simp only [execOp, hρ _ _ hc, hρ _ _ hx, hρ _ _ hy]
  cases b <;> simp [asBool]
/-- 'a or b': behind a guard that may have left nothing. -/
theorem does_pick_or {c x y : Operand} {b r : Bool} (hc : ev L c = some (.bool b)) (hx : ev L x = some (.bool true)) (hy : ev L y = some (bif b then undef else .bool r)) :
    Does P L ⟨d, .pick c x y, ty, pos, af, g⟩ w (.bool (b || r)) := fun ρ hρ => by
  simp only [execOp, hρ _ _ hc, hρ _ _ hx, hρ _ _ hy]
  cases b <;> simp [asBool]
theorem does_pick_and {c x y : Operand} {b r : Bool} (hc : ev L c = some (.bool b)) (hx : ev L x = some (bif b then .bool r else undef)) (hy : ev L y = some (.bool false)) :
    Does P L ⟨d, .pick c x y, ty, pos, af, g⟩ w (.bool (b && r)) := fun ρ hρ => by
  simp only [execOp, hρ _ _ hc, hρ _ _ hx, hρ _ _ hy]
  cases b <;> simp [asBool]

def i64ok (n : Int) : Prop := -9223372036854775808 ≤ n ∧ n ≤ 9223372036854775807
theorem i64ok.eq {n : Int} (h : i64ok n) : IntKind.i64.wrap n = n := IntWalk.i64_in _ h

theorem does_add {x y : Operand} {xt yt : TypeId} {m n : Int} (hx : ev L x = some (.int .i64 m)) (hy : ev L y = some (.int .i64 n)) (h : i64ok (m + n)) :
    Does P L ⟨d, .binOp .add xt x y yt, ty, pos, af, g⟩ w (.int .i64 (m + n)) := fun ρ hρ => by
  simp [execOp, hρ _ _ hx, hρ _ _ hy, eqGuard, binOp, Op.intArith, h.eq]
theorem does_sub {x y : Operand} {xt yt : TypeId} {m n : Int} (hx : ev L x = some (.int .i64 m)) (hy : ev L y = some (.int .i64 n)) (h : i64ok (m - n)) :
    Does P L ⟨d, .binOp .sub xt x y yt, ty, pos, af, g⟩ w (.int .i64 (m - n)) := fun ρ hρ => by
  simp [execOp, hρ _ _ hx, hρ _ _ hy, eqGuard, binOp, Op.intArith, h.eq]
theorem does_mul {x y : Operand} {xt yt : TypeId} {m n : Int} (hx : ev L x = some (.int .i64 m)) (hy : ev L y = some (.int .i64 n)) (h : i64ok (m * n)) :
    Does P L ⟨d, .binOp .mul xt x y yt, ty, pos, af, g⟩ w (.int .i64 (m * n)) := fun ρ hρ => by
  simp [execOp, hρ _ _ hx, hρ _ _ hy, eqGuard, binOp, Op.intArith, h.eq]
theorem does_quo {x y : Operand} {xt yt : TypeId} {m n : Int} (hx : ev L x = some (.int .i64 m)) (hy : ev L y = some (.int .i64 n)) (h0 : 0 ≤ m) (h1 : m ≤ 9223372036854775807) (hn : 0 < n) :
    Does P L ⟨d, .binOp .quo xt x y yt, ty, pos, af, g⟩ w (.int .i64 (m / n)) := fun ρ hρ => by
  have hne : n ≠ 0 := by omega
  have e : m.tdiv n = m / n := Int.tdiv_eq_ediv_of_nonneg h0
  have hb : i64ok (m / n) := ⟨by have := Int.ediv_nonneg h0 (by omega : 0 ≤ n); omega, by have := Int.ediv_le_self n h0; omega⟩
  simp [execOp, hρ _ _ hx, hρ _ _ hy, eqGuard, binOp, Op.intDiv, hne, e, hb.eq]
theorem does_rem {x y : Operand} {xt yt : TypeId} {m n : Int} (hx : ev L x = some (.int .i64 m)) (hy : ev L y = some (.int .i64 n)) (h0 : 0 ≤ m) (hn : 0 < n) :
    Does P L ⟨d, .binOp .rem xt x y yt, ty, pos, af, g⟩ w (.int .i64 (m % n)) := fun ρ hρ => by
  have hne : n ≠ 0 := by omega
  have e : m.tmod n = m % n := Int.tmod_eq_emod_of_nonneg h0
  simp [execOp, hρ _ _ hx, hρ _ _ hy, eqGuard, binOp, Op.intDiv, hne, e]
theorem does_lss {x y : Operand} {xt yt : TypeId} {k : IntKind} {m n : Int} (hx : ev L x = some (.int k m)) (hy : ev L y = some (.int k n)) :
    Does P L ⟨d, .binOp .lss xt x y yt, ty, pos, af, g⟩ w (.bool (decide (m < n))) := fun ρ hρ => by
  simp [execOp, hρ _ _ hx, hρ _ _ hy, eqGuard, binOp, Op.intCmp]
theorem does_leq {x y : Operand} {xt yt : TypeId} {k : IntKind} {m n : Int} (hx : ev L x = some (.int k m)) (hy : ev L y = some (.int k n)) :
    Does P L ⟨d, .binOp .leq xt x y yt, ty, pos, af, g⟩ w (.bool (decide (m ≤ n))) := fun ρ hρ => by
  simp [execOp, hρ _ _ hx, hρ _ _ hy, eqGuard, binOp, Op.intCmp]
theorem does_gtr {x y : Operand} {xt yt : TypeId} {k : IntKind} {m n : Int} (hx : ev L x = some (.int k m)) (hy : ev L y = some (.int k n)) :
    Does P L ⟨d, .binOp .gtr xt x y yt, ty, pos, af, g⟩ w (.bool (decide (n < m))) := fun ρ hρ => by
  simp [execOp, hρ _ _ hx, hρ _ _ hy, eqGuard, binOp, Op.intCmp]
theorem does_geq {x y : Operand} {xt yt : TypeId} {k : IntKind} {m n : Int} (hx : ev L x = some (.int k m)) (hy : ev L y = some (.int k n)) :
    Does P L ⟨d, .binOp .geq xt x y yt, ty, pos, af, g⟩ w (.bool (decide (n ≤ m))) := fun ρ hρ => by
  simp [execOp, hρ _ _ hx, hρ _ _ hy, eqGuard, binOp, Op.intCmp]
theorem does_eql {x y : Operand} {xt yt : TypeId} {k : IntKind} {m n : Int} (hx : ev L x = some (.int k m)) (hy : ev L y = some (.int k n)) :
    Does P L ⟨d, .binOp .eql xt x y yt, ty, pos, af, g⟩ w (.bool (decide (m = n))) := fun ρ hρ => by
  simp [execOp, hρ _ _ hx, hρ _ _ hy, eqGuard, binOp, Op.intCmp]
  exact Bool.eq_iff_iff.2 (by simp)
theorem does_neq {x y : Operand} {xt yt : TypeId} {k : IntKind} {m n : Int} (hx : ev L x = some (.int k m)) (hy : ev L y = some (.int k n)) :
    Does P L ⟨d, .binOp .neq xt x y yt, ty, pos, af, g⟩ w (.bool (!decide (m = n))) := fun ρ hρ => by
  simp [execOp, hρ _ _ hx, hρ _ _ hy, eqGuard, binOp, Op.intCmp]
  exact Bool.eq_iff_iff.2 (by simp)
theorem run_eqlb {xt : TypeId} (hu : P.underlying xt = some .bool) (d : Nat) (m n : Bool) : (Op.equalIn (d + 1) xt (.bool m) (.bool n)).run P w = .ok (m == n) w := by
  simp [Op.equalIn, run_und hu]
theorem run_binb {xt : TypeId} (hu : P.underlying xt = some .bool) (m n : Bool) : (binOp .eql xt (.bool m) (.bool n)).run P w = .ok (.bool (m == n)) w := by
  simp only [binOp]
  simp [Op.equal, Op.maxDepth, run_eqlb hu 9999 m n]
theorem run_binnb {xt : TypeId} (hu : P.underlying xt = some .bool) (m n : Bool) : (binOp .neq xt (.bool m) (.bool n)).run P w = .ok (.bool (!(m == n))) w := by
  simp only [binOp]
  simp [Op.equal, Op.maxDepth, run_eqlb hu 9999 m n]
theorem eqG_b (op : BinOp) (t : TypeId) (x y : Operand) (m n : Bool) : (eqGuard op t x y (.bool m) (.bool n)).run P w = .ok () w := by
  unfold eqGuard; split <;> simp
/-- '==' between two bools. -/
theorem does_eqlb {x y : Operand} {xt yt : TypeId} {m n : Bool} (hu : P.underlying xt = some .bool) (hx : ev L x = some (.bool m)) (hy : ev L y = some (.bool n)) :
    Does P L ⟨d, .binOp .eql xt x y yt, ty, pos, af, g⟩ w (.bool (m == n)) := fun ρ hρ => by
  simp only [execOp, hρ _ _ hx, hρ _ _ hy]
  simp [eqG_b, run_binb hu]
theorem does_neqb {x y : Operand} {xt yt : TypeId} {m n : Bool} (hu : P.underlying xt = some .bool) (hx : ev L x = some (.bool m)) (hy : ev L y = some (.bool n)) :
    Does P L ⟨d, .binOp .neq xt x y yt, ty, pos, af, g⟩ w (.bool (!(m == n))) := fun ρ hρ => by
  simp only [execOp, hρ _ _ hx, hρ _ _ hy]
  simp [eqG_b, run_binnb hu]
theorem does_not {x : Operand} {xt : TypeId} {b : Bool} (hx : ev L x = some (.bool b)) : Does P L ⟨d, .unOp .not xt x, ty, pos, af, g⟩ w (.bool (!b)) := fun ρ hρ => by
  simp [execOp, hρ _ _ hx, Op.unary]
theorem does_neg {x : Operand} {xt : TypeId} {n : Int} (hx : ev L x = some (.int .i64 n)) (h : i64ok (-n)) : Does P L ⟨d, .unOp .neg xt x, ty, pos, af, g⟩ w (.int .i64 (-n)) := fun ρ hρ => by
  have := h.eq
  simp [execOp, hρ _ _ hx, Op.unary, Op.intArith]
  exact this
theorem does_field {x : Operand} {t f off b o : Nat} (h : FOff P t f off) (hx : ev L x = some (.pointer (some ⟨b, o, none⟩))) : Does P L ⟨d, .fieldAddr t x f, ty, pos, af, g⟩ w (.pointer (some ⟨b, o + off, none⟩)) := fun ρ hρ => by
  simp [execOp, hρ _ _ hx, run_fieldAt h]
theorem does_field_pt {x : Operand} {t f off sz k j : Nat} {A : Option Addr} (h : FOff P t f off) (hx : ev L x = some (.pointer (some (pt A sz k j)))) : Does P L ⟨d, .fieldAddr t x f, ty, pos, af, g⟩ w (.pointer (some (pt A sz k (j + off)))) :=
  (by have := does_field (P := P) (L := L) (w := w) (ty := ty) (pos := pos) (af := af) (d := d) (g := g) h hx; rw [Nat.add_assoc] at this; exact this)
theorem does_load {x : Operand} {t : Nat} {a : Addr} {v : Value} (h1 : One P t) (hx : ev L x = some (.pointer (some a))) (h : w.cell? a = some v) : Does P L ⟨d, .load t x, ty, pos, af, g⟩ w v := fun ρ hρ => by
  simp [execOp, hρ _ _ hx, run_load1 h1 h]
theorem does_loadAgg {x : Operand} {t b o : Nat} {vs : List Value} (h1 : Agg P t) (hs : Sz P t vs.length) (hx : ev L x = some (.pointer (some ⟨b, o, none⟩))) (h : ∀ (j : Nat) v, vs[j]? = some v → w.cell? ⟨b, o + j, none⟩ = some v) :
    Does P L ⟨d, .load t x, ty, pos, af, g⟩ w (.agg vs.toArray) := fun ρ hρ => by
  simp [execOp, hρ _ _ hx, run_loadAgg h1 hs h]

theorem run_indexAt {t e sz : Nat} {A : Option Addr} {n c : Nat} {k : IntKind} {i : Int} (ht : SlT P t e) (hs : Sz P e sz) (hA : A = some ⟨(adr A).block, (adr A).off, none⟩) (h0 : 0 ≤ i) (hn : i < n) :
    (Instr.indexAt t (.slice A n c) (.int k i)).run P w = .ok (.pointer (some (pt A sz i.toNat 0))) w := by
  generalize adr A = a at hA
  subst hA
  have e1 : (⟨a.block, a.off, none⟩ : Addr).add (i.toNat * sz) = ⟨a.block, a.off + i.toNat * sz, none⟩ := add_lit _ _ _
  simp [Instr.indexAt, asIntOf, run_und ht, h0, hn, hs.run, e1, pt, adr]

theorem does_index {x i : Operand} {t e sz : Nat} {A : Option Addr} {n c : Nat} {k : IntKind} {j : Int} (ht : SlT P t e) (hs : Sz P e sz) (hx : ev L x = some (.slice A n c)) (hi : ev L i = some (.int k j))
    (hA : A = some ⟨(adr A).block, (adr A).off, none⟩) (h0 : 0 ≤ j) (hn : j < n) : Does P L ⟨d, .indexAddr t x i, ty, pos, af, g⟩ w (.pointer (some (pt A sz j.toNat 0))) := fun ρ hρ => by
  simp [execOp, hρ _ _ hx, hρ _ _ hi, run_indexAt ht hs hA h0 hn]
theorem does_indexN {x i : Operand} {t e sz : Nat} {A : Option Addr} {n c : Nat} {k : IntKind} {j : Nat} (ht : SlT P t e) (hs : Sz P e sz) (hx : ev L x = some (.slice A n c)) (hi : ev L i = some (.int k (j : Int)))
    (hA : A = some ⟨(adr A).block, (adr A).off, none⟩) (hn : j < n) : Does P L ⟨d, .indexAddr t x i, ty, pos, af, g⟩ w (.pointer (some (pt A sz j 0))) := by
  have := does_index (P := P) (L := L) (w := w) (ty := ty) (pos := pos) (af := af) (d := d) (g := g) ht hs hx hi hA (by omega) (by omega)
  simpa using this
theorem does_len {x : Operand} {t e : Nat} {A : Option Addr} {n c : Nat} (ht : SlT P t e) (hx : ev L x = some (.slice A n c)) :
    Does P L ⟨d, .call ⟨.builtin .len, #[x], #[t]⟩, ty, pos, af, g⟩ w (.int .i64 (n : Int)) := fun ρ hρ => by
  simp [execOp, resolve, hρ _ _ hx, invoke, builtin, Builtin.len_, run_und ht, goInt]
theorem does_min {x y : Operand} {s t : Nat} {k : IntKind} {m n : Int} (hx : ev L x = some (.int k m)) (hy : ev L y = some (.int k n)) :
    Does P L ⟨d, .call ⟨.builtin .min, #[x, y], #[s, t]⟩, ty, pos, af, g⟩ w (.int k (min m n)) := fun ρ hρ => by
  have e : (if n < m then n else m) = min m n := by omega
  simp [execOp, resolve, hρ _ _ hx, hρ _ _ hy, invoke, builtin, Builtin.min_, Builtin.min2, e]
theorem does_max {x y : Operand} {s t : Nat} {k : IntKind} {m n : Int} (hx : ev L x = some (.int k m)) (hy : ev L y = some (.int k n)) :
    Does P L ⟨d, .call ⟨.builtin .max, #[x, y], #[s, t]⟩, ty, pos, af, g⟩ w (.int k (max m n)) := fun ρ hρ => by
  have e : (if n > m then n else m) = max m n := by omega
  simp [execOp, resolve, hρ _ _ hx, hρ _ _ hy, invoke, builtin, Builtin.max_, Builtin.max2]
  try omega
theorem does_extract {x : Operand} {i : Nat} {vs : Array Value} {v : Value} (hx : ev L x = some (.tuple vs)) (h : vs[i]? = some v) : Does P L ⟨d, .extract x i, ty, pos, af, g⟩ w v := fun ρ hρ => by
  simp [execOp, hρ _ _ hx, Instr.extract, h]
theorem does_makeFunc {fn : Fn} {xs ys : Array Operand} {us vs : List Value} (hx : evs L xs.toList = some us) (hy : evs L ys.toList = some vs) : Does P L ⟨d, .makeFunc fn xs ys, ty, pos, af, g⟩ w (.func fn us.toArray vs.toArray) := fun ρ hρ => by
  have key : ∀ (zs : List Operand) (us : List Value), evs L zs = some us → zs.map ρ = us := by
    intro zs
    induction zs with
    | nil => intro us h; simp only [evs, Option.some.injEq] at h; subst h; rfl
    | cons z zs ih =>
      intro us h
      simp only [evs] at h
      split at h
      · rename_i v hv
        split at h
        · rename_i us' hus
          simp only [Option.some.injEq] at h
          subst h
          simp only [List.map_cons, hρ _ _ hv, ih _ hus]
        · cases h
      · cases h
  have e1 : xs.map ρ = us.toArray := by rw [← key _ _ hx, ← Array.toList_map, Array.toArray_toList]
  have e2 : ys.map ρ = vs.toArray := by rw [← key _ _ hy, ← Array.toList_map, Array.toArray_toList]
  simp [execOp, Instr.makeFunc, e1, e2]
theorem does_fieldv {x : Operand} {t f : Nat} {fs : Array Field} {fd : Field} {cs : Array Value} {v : Value} (hu : P.underlying t = some (.struct fs)) (hf : fs[f]? = some fd) (h1 : One P fd.type) (hx : ev L x = some (.agg cs)) (hv : cs[fd.offset]? = some v) :
    Does P L ⟨d, .field t x f, ty, pos, af, g⟩ w v := fun ρ hρ => by
  simp [execOp, hρ _ _ hx, Instr.field, run_und hu, hf, asAgg, part, h1.run, hv]
end
end Go.Proofs.Ytlmddkekeoebcaa
