/- Comparisons whose answer is known. -/
import Derived.Test.YtlmddkekeoebcaaOps2
namespace Go.Proofs.Ytlmddkekeoebcaa
set_option linter.unusedVariables false
set_option linter.unusedSimpArgs false
open Go.RowKit
section
variable {P : Program} {w : World} {L : List (Nat × Value)} {ty : TypeId} {pos : String} {af : Array Edge} {dd : Option Nat} {g : Option (Nat × Bool)} {x y : Operand} {xt yt : TypeId} {k : IntKind} {m n : Int}
theorem does_eq_t (hx : ev L x = some (.int k m)) (hy : ev L y = some (.int k n)) (h : m = n) : Does P L ⟨dd, .binOp .eql xt x y yt, ty, pos, af, g⟩ w (.bool true) := (does_eql hx hy).to (congrArg Value.bool (decide_eq_true h))
theorem does_eq_f (hx : ev L x = some (.int k m)) (hy : ev L y = some (.int k n)) (h : ¬ m = n) : Does P L ⟨dd, .binOp .eql xt x y yt, ty, pos, af, g⟩ w (.bool false) := (does_eql hx hy).to (congrArg Value.bool (decide_eq_false h))
theorem does_ne_f (hx : ev L x = some (.int k m)) (hy : ev L y = some (.int k n)) (h : m = n) : Does P L ⟨dd, .binOp .neq xt x y yt, ty, pos, af, g⟩ w (.bool false) := (does_neq hx hy).to (congrArg Value.bool (by rw [decide_eq_true h]; rfl))
theorem does_ne_t (hx : ev L x = some (.int k m)) (hy : ev L y = some (.int k n)) (h : ¬ m = n) : Does P L ⟨dd, .binOp .neq xt x y yt, ty, pos, af, g⟩ w (.bool true) := (does_neq hx hy).to (congrArg Value.bool (by rw [decide_eq_false h]; rfl))
theorem does_ge_t (hx : ev L x = some (.int k m)) (hy : ev L y = some (.int k n)) (h : n ≤ m) : Does P L ⟨dd, .binOp .geq xt x y yt, ty, pos, af, g⟩ w (.bool true) := (does_geq hx hy).to (congrArg Value.bool (decide_eq_true h))
theorem does_ge_f (hx : ev L x = some (.int k m)) (hy : ev L y = some (.int k n)) (h : ¬ n ≤ m) : Does P L ⟨dd, .binOp .geq xt x y yt, ty, pos, af, g⟩ w (.bool false) := (does_geq hx hy).to (congrArg Value.bool (decide_eq_false h))
theorem does_le_t (hx : ev L x = some (.int k m)) (hy : ev L y = some (.int k n)) (h : m ≤ n) : Does P L ⟨dd, .binOp .leq xt x y yt, ty, pos, af, g⟩ w (.bool true) := (does_leq hx hy).to (congrArg Value.bool (decide_eq_true h))
theorem does_le_f (hx : ev L x = some (.int k m)) (hy : ev L y = some (.int k n)) (h : ¬ m ≤ n) : Does P L ⟨dd, .binOp .leq xt x y yt, ty, pos, af, g⟩ w (.bool false) := (does_leq hx hy).to (congrArg Value.bool (decide_eq_false h))
theorem does_lt_t (hx : ev L x = some (.int k m)) (hy : ev L y = some (.int k n)) (h : m < n) : Does P L ⟨dd, .binOp .lss xt x y yt, ty, pos, af, g⟩ w (.bool true) := (does_lss hx hy).to (congrArg Value.bool (decide_eq_true h))
theorem does_lt_f (hx : ev L x = some (.int k m)) (hy : ev L y = some (.int k n)) (h : ¬ m < n) : Does P L ⟨dd, .binOp .lss xt x y yt, ty, pos, af, g⟩ w (.bool false) := (does_lss hx hy).to (congrArg Value.bool (decide_eq_false h))
theorem does_gt_t (hx : ev L x = some (.int k m)) (hy : ev L y = some (.int k n)) (h : n < m) : Does P L ⟨dd, .binOp .gtr xt x y yt, ty, pos, af, g⟩ w (.bool true) := (does_gtr hx hy).to (congrArg Value.bool (decide_eq_true h))
theorem does_gt_f (hx : ev L x = some (.int k m)) (hy : ev L y = some (.int k n)) (h : ¬ n < m) : Does P L ⟨dd, .binOp .gtr xt x y yt, ty, pos, af, g⟩ w (.bool false) := (does_gtr hx hy).to (congrArg Value.bool (decide_eq_false h))
theorem does_eqb_t {m n : Bool} (hu : P.underlying xt = some .bool) (hx : ev L x = some (.bool m)) (hy : ev L y = some (.bool n)) (h : m = n) : Does P L ⟨dd, .binOp .eql xt x y yt, ty, pos, af, g⟩ w (.bool true) := (does_eqlb hu hx hy).to (congrArg Value.bool (by subst h; simp))
theorem does_neb_f {m n : Bool} (hu : P.underlying xt = some .bool) (hx : ev L x = some (.bool m)) (hy : ev L y = some (.bool n)) (h : m = n) : Does P L ⟨dd, .binOp .neq xt x y yt, ty, pos, af, g⟩ w (.bool false) := (does_neqb hu hx hy).to (congrArg Value.bool (by subst h; simp))
end
theorem ownM.len63 {w0 w : World} {F0 : Nat → Prop} {R : List Mem} {i : Nat} {e sz n c : Nat} {A : Option Addr} {cell : Nat → Nat → Value} (S : St w0 F0 R w) (hi : R[i]? = some (ownM e sz A n c cell)) : n ≤ 9223372036854775807 := by
  have h := ownM.le S hi
  unfold maxLen at h
  omega
end Go.Proofs.Ytlmddkekeoebcaa
