/- Walks as terms: stretches that read at the most are chains of lemmas; what needs no proof is computed. -/
import Derived.Test.YtlmddkekeoebcaaGrd
import Derived.Test.YtlmddkekeoebcaaOps2
namespace Go.Proofs.Ytlmddkekeoebcaa
set_option linter.unusedVariables false
set_option linter.unusedSimpArgs false
open Go.RowKit

theorem o1 {a b : Bool} : ((a || b) = true) = (a = true ∨ b = true) := Bool.or_eq_true a b
theorem o2 {a b : Bool} : ((a && b) = true) = (a = true ∧ b = true) := Bool.and_eq_true a b
theorem o3 {a : Bool} : ((!a) = true) = (a = false) := Bool.not_eq_true' a
theorem o4 {a b : Bool} : ((a || b) = false) ↔ (a = false ∧ b = false) := Bool.or_eq_false_iff
theorem o5 {a b : Bool} : ((a && b) = false) ↔ (a = false ∨ b = false) := Bool.and_eq_false_iff
theorem o6 {a : Bool} : ((!a) = false) = (a = true) := Bool.not_eq_false' a
theorem o7 {p : Prop} [Decidable p] : (decide p = true) = p := decide_eq_true_eq
theorem o8 {p : Prop} [Decidable p] : (decide p = false) = (¬ p) := by rw [decide_eq_false_iff_not]
theorem o9 {a b : Int} : ¬ a < b ↔ b ≤ a := Int.not_lt
theorem oa {a b : Int} : ¬ a ≤ b ↔ b < a := Int.not_le
/-- What an operation yields that needs no proof. -/
def exec1 (L : List (Nat × Value)) : Op → Option Value
  | .move x => ev L x
  | .assign x => ev L x
  | .nilCheck x => match ev L x with
    | some (.pointer (some a)) => some (.pointer (some a))
    | _ => none
  | .extract x i => match ev L x with
    | some (.tuple vs) => vs[i]?
    | _ => none
  | .unOp .not _ x => match ev L x with
    | some (.bool b) => some (.bool (!b))
    | _ => none
  | .binOp op _ x y _ => match ev L x with
    | some (.int .i64 m) => match ev L y with
      | some (.int .i64 n) => match op with
        | .lss => some (.bool (decide (m < n)))
        | .leq => some (.bool (decide (m ≤ n)))
        | .gtr => some (.bool (decide (n < m)))
        | .geq => some (.bool (decide (n ≤ m)))
        | .eql => some (.bool (decide (m = n)))
        | .neq => some (.bool (!decide (m = n)))
        | _ => none
      | _ => none
    | _ => none
  | .makeFunc fn xs ys => match evs L xs.toList with
    | some us => match evs L ys.toList with
      | some vs => some (.func fn us.toArray vs.toArray)
      | none => none
    | none => none
  | _ => none

section
variable {P : Program} {L : List (Nat × Value)} {w : World} {ty : TypeId} {pos : String} {af : Array Edge} {d : Option Nat} {g : Option (Nat × Bool)}
theorem exec1_ok {op : Op} {v : Value} (h : exec1 L op = some v) : Does P L ⟨d, op, ty, pos, af, g⟩ w v := by
  cases op <;> simp only [exec1] at h <;> try (cases h; done)
  case move x => exact does_move h
  case assign x => exact does_assign h
  case nilCheck x =>
    split at h
    · rename_i a ha; cases h; exact does_nilCheck ha
    · cases h
  case extract x i =>
    split at h
    · rename_i vs hv; exact does_extract hv h
    · cases h
  case unOp u t x =>
    cases u <;> simp only at h <;> try (cases h; done)
    split at h
    · rename_i b hb; cases h; exact does_not hb
    · cases h
  case binOp op xt x y yt =>
    split at h
    · rename_i m hm
      split at h
      · rename_i n hn
        cases op <;> simp only at h <;> cases h
        · exact does_eql hm hn
        · exact does_neq hm hn
        · exact does_lss hm hn
        · exact does_leq hm hn
        · exact does_gtr hm hn
        · exact does_geq hm hn
      · cases h
    · cases h
  case makeFunc fn xs ys =>
    split at h
    · rename_i us hu
      split at h
      · rename_i vs hv; cases h; exact does_makeFunc hu hv
      · cases h
    · cases h
end

def run (N : FN) : Nat → List Oper → List (Nat × Value) → Option (List Oper × List (Nat × Value))
  | 0, l, L => some (l, L)
  | n + 1, ⟨some d, op, _, _, _, none⟩ :: l, L => match exec1 L op with
    | some v => match Nat.blt d N.n with
      | true => run N n l ((d, v) :: L)
      | false => none
    | none => none
  | _ + 1, _, _ => none

section
variable {P : Program} {ops : Array Oper} {w w0 : World} {F0 : Nat → Prop} {R : List Mem} {Q : Exit → Act → World → Prop} {Qs : Act → Prop} {rest l l' : List Oper} {N : FN} {L L' : List (Nat × Value)} {a : Act} {ty : TypeId} {pos : String} {af : Array Edge} {op : Op} {d : Nat}

def SF (P : Program) (ops : Array Oper) (w : World) (Qs : Act → Prop) (N : FN) (l : List Oper) (L : List (Nat × Value)) : Prop := ∀ a, Fr N L a → wpStill P ops w Qs l a

theorem sF (H : Fr N L a) (h : SF P ops w Qs N l L) : wpStill P ops w Qs l a := h a H
theorem sE (h : ∀ a, Fr N L a → Qs a) : SF P ops w Qs N [] L := fun a H => wpStill_nil (h a H)
theorem sK (h : ∀ a, Fr N L a → wpStill P ops w Qs l a) : SF P ops w Qs N l L := h

/-- One operation. -/
theorem sd {v : Value} (h : Does P L ⟨some d, op, ty, pos, af, none⟩ w v) (k : SF P ops w Qs N rest ((d, v) :: L)) (hd : Nat.blt d N.n = true := by rfl) : SF P ops w Qs N (⟨some d, op, ty, pos, af, none⟩ :: rest) L :=
  fun a H => still_does H hd h k

theorem sr1 : ∀ (n : Nat) (l : List Oper) (L : List (Nat × Value)), run N n l L = some (l', L') → SF P ops w Qs N l' L' → SF P ops w Qs N l L := by
  intro n
  induction n with
  | zero => intro l L h k; simp only [run, Option.some.injEq, Prod.mk.injEq] at h; obtain ⟨rfl, rfl⟩ := h; exact k
  | succ n ih =>
    intro l L h k
    cases l with
    | nil => simp only [run] at h; cases h
    | cons o l =>
      obtain ⟨d, op, ty, pos, af, gd⟩ := o
      cases d with
      | none => simp only [run] at h; cases h
      | some d =>
        cases gd with
        | some _ => simp only [run] at h; cases h
        | none =>
          simp only [run] at h
          split at h
          · rename_i v hv
            split at h
            · rename_i hd
              exact sd (exec1_ok hv) (ih _ _ h k) hd
            · cases h
          · cases h
/-- Some operations that need no proof. -/
theorem sr (n : Nat) (h : run N n l L = some (l', L')) (k : SF P ops w Qs N l' L') : SF P ops w Qs N l L := sr1 n l L h k

/-- The next operation runs: its guard is as it must be. -/
theorem sy {dd : Option Nat} {i g : Nat} {b c : Bool} (e : c = b) (k : SF P ops w Qs N (⟨dd, op, ty, pos, af, none⟩ :: rest) L) (hg : (ops[i]?).bind (·.dst) = some g := by rfl) (hc : look L g = some (.bool c) := by rfl) :
    SF P ops w Qs N (⟨dd, op, ty, pos, af, some (i, b)⟩ :: rest) L := fun a H => still_yes' H hg hc e (k a H)
/-- It does not. -/
theorem sn {i g : Nat} {b c : Bool} (hg : (ops[i]?).bind (·.dst) = some g) (hc : look L g = some (.bool c)) (hne : (c == b) = false) (k : SF P ops w Qs N rest ((d, undef) :: L)) (hd : Nat.blt d N.n = true := by rfl) :
    SF P ops w Qs N (⟨some d, op, ty, pos, af, some (i, b)⟩ :: rest) L := fun a H => still_no H hg hc hne hd k

/-- A stretch under a guard. -/
theorem sg (m i g t : Nat) (b : Bool) {c : Bool} {v : Value} (hg : (ops[i]?).bind (·.dst) = some g) (hc : look L g = some (.bool c))
    (h1 : c = b → SF P ops w (fun a' => Fr N ((t, v) :: L) a') N (l.take m) L) (k : SF P ops w Qs N (l.drop m) ((t, gv c b v) :: L))
    (hs : skips ops i g b [] (l.take m) = true := by kernel_rfl) (hw : writes t (l.take m) = true := by kernel_rfl) (hcl : clean L (l.take m) = true := by rfl) (ht : Nat.blt t N.n = true := by rfl) : SF P ops w Qs N l L :=
  fun a H => still_guard m H hg hc hs hw hcl ht (fun e => h1 e a H) k
/-- Its end. -/
theorem sz {t : Nat} {v : Value} {X : List (Nat × Value)} (k : Nat) (ht : look X t = some v) (hc : cleanK k X = true) (hL : X.drop k = L) : SF P ops w (fun a' => Fr N ((t, v) :: L) a') N [] X :=
  fun a H => by subst hL; exact wpStill_nil (H.strip k ht hc)

/-! one operation of each kind -/
theorem sl {x : Operand} {t b off bt : Nat} {cs : List Value} {v : Value} (S : St w0 F0 R w) (j : Nat) (h1 : One P t) (hx : ev L x = some (.pointer (some ⟨b, off, none⟩))) (hi : R[j]? = some (boxM b bt cs)) (hv : cs[off]? = some v)
    (k : SF P ops w Qs N rest ((d, v) :: L)) (hd : Nat.blt d N.n = true := by rfl) : SF P ops w Qs N (⟨some d, .load t x, ty, pos, af, none⟩ :: rest) L := sd (does_load h1 hx (boxM.rd S hi hv)) k hd
theorem sla {x : Operand} {t b bt n : Nat} {cs : List Value} (S : St w0 F0 R w) (j : Nat) (hA : Agg P t) (hs : Sz P t n) (hx : ev L x = some (.pointer (some ⟨b, 0, none⟩))) (hi : R[j]? = some (boxM b bt cs)) (hn : cs.length = n)
    (k : SF P ops w Qs N rest ((d, .agg cs.toArray) :: L)) (hd : Nat.blt d N.n = true := by rfl) : SF P ops w Qs N (⟨some d, .load t x, ty, pos, af, none⟩ :: rest) L :=
  sd (does_loadAgg hA (by rw [hn]; exact hs) hx (fun q v hv => by rw [Nat.zero_add]; exact boxM.rd S hi hv)) k hd
theorem slm {x : Operand} {t : Nat} {a : Addr} {v : Value} (h1 : One P t) (hx : ev L x = some (.pointer (some a))) (h : w.cell? a = some v)
    (k : SF P ops w Qs N rest ((d, v) :: L)) (hd : Nat.blt d N.n = true := by rfl) : SF P ops w Qs N (⟨some d, .load t x, ty, pos, af, none⟩ :: rest) L := sd (does_load h1 hx h) k hd
theorem sf {x : Operand} {t f off b o : Nat} (h : FOff P t f off) (hx : ev L x = some (.pointer (some ⟨b, o, none⟩))) (k : SF P ops w Qs N rest ((d, .pointer (some ⟨b, o + off, none⟩)) :: L)) (hd : Nat.blt d N.n = true := by rfl) :
    SF P ops w Qs N (⟨some d, .fieldAddr t x f, ty, pos, af, none⟩ :: rest) L := sd (does_field h hx) k hd
theorem sp {x : Operand} {t f off sz k j : Nat} {A : Option Addr} (h : FOff P t f off) (hx : ev L x = some (.pointer (some (pt A sz k j)))) (K : SF P ops w Qs N rest ((d, .pointer (some (pt A sz k (j + off)))) :: L)) (hd : Nat.blt d N.n = true := by rfl) :
    SF P ops w Qs N (⟨some d, .fieldAddr t x f, ty, pos, af, none⟩ :: rest) L := sd (does_field_pt h hx) K hd
theorem si {x i : Operand} {t e s : Nat} {A : Option Addr} {n c : Nat} {q : IntKind} {j : Nat} (ht : SlT P t e) (hs : Sz P e s) (hx : ev L x = some (.slice A n c)) (hi : ev L i = some (.int q (j : Int)))
    (hA : A = some ⟨(adr A).block, (adr A).off, none⟩) (hn : j < n) (k : SF P ops w Qs N rest ((d, .pointer (some (pt A s j 0))) :: L)) (hd : Nat.blt d N.n = true := by rfl) :
    SF P ops w Qs N (⟨some d, .indexAddr t x i, ty, pos, af, none⟩ :: rest) L := sd (does_indexN ht hs hx hi hA hn) k hd
theorem sI {x i : Operand} {t e s : Nat} {A : Option Addr} {n c : Nat} {q : IntKind} {j : Int} (ht : SlT P t e) (hs : Sz P e s) (hx : ev L x = some (.slice A n c)) (hi : ev L i = some (.int q j))
    (hA : A = some ⟨(adr A).block, (adr A).off, none⟩) (h0 : 0 ≤ j) (hn : j < n) (k : SF P ops w Qs N rest ((d, .pointer (some (pt A s j.toNat 0))) :: L)) (hd : Nat.blt d N.n = true := by rfl) :
    SF P ops w Qs N (⟨some d, .indexAddr t x i, ty, pos, af, none⟩ :: rest) L := sd (does_index ht hs hx hi hA h0 hn) k hd
theorem sL {x : Operand} {t e : Nat} {A : Option Addr} {n c : Nat} (ht : SlT P t e) (hx : ev L x = some (.slice A n c)) (k : SF P ops w Qs N rest ((d, .int .i64 (n : Int)) :: L)) (hd : Nat.blt d N.n = true := by rfl) :
    SF P ops w Qs N (⟨some d, .call ⟨.builtin .len, #[x], #[t]⟩, ty, pos, af, none⟩ :: rest) L := sd (does_len ht hx) k hd
theorem so {c x y : Operand} {b r : Bool} (hc : ev L c = some (.bool b)) (hx : ev L x = some (.bool true)) (hy : ev L y = some (gv b false (.bool r))) (k : SF P ops w Qs N rest ((d, .bool (b || r)) :: L)) (hd : Nat.blt d N.n = true := by rfl) :
    SF P ops w Qs N (⟨some d, .pick c x y, ty, pos, af, none⟩ :: rest) L := sd (does_or hc hx hy) k hd
theorem sa {c x y : Operand} {b r : Bool} (hc : ev L c = some (.bool b)) (hx : ev L x = some (gv b true (.bool r))) (hy : ev L y = some (.bool false)) (k : SF P ops w Qs N rest ((d, .bool (b && r)) :: L)) (hd : Nat.blt d N.n = true := by rfl) :
    SF P ops w Qs N (⟨some d, .pick c x y, ty, pos, af, none⟩ :: rest) L := sd (does_and hc hx hy) k hd
theorem sc {f : Nat} {fn : Func} {xs : Array Operand} {ats : Array TypeId} {vs : List Value} {v : Value} (hxs : evs L xs.toList = some vs)
    (hf : P.funcs[f]? = some fn) (hb : fn.body.isNone = false) (hn : (fn.name == "runtime.NumGoroutine") = false)
    (hc : Calls P f vs.toArray w (Ret fun u w' => u = v ∧ w' = w)) (k : SF P ops w Qs N rest ((d, v) :: L)) (hd : Nat.blt d N.n = true := by rfl) :
    SF P ops w Qs N (⟨some d, .call ⟨.value (.func f), xs, ats⟩, ty, pos, af, none⟩ :: rest) L := fun a H => still_call H hd hxs hf hb hn hc k

/-! in a list that also writes -/
theorem ls (m : Nat) (H : Fr N L a) (h : SF P ops w (fun a' => wpList P ops Q (l.drop m) a' w) N (l.take m) L) : wpList P ops Q l a w := list_still m (h a H)

/-! ## regions that read at the most -/
theorem sS {y : Code} {id : Nat} (H : Fr N L a) (h : ∀ K : Act → Prop, (∀ a, y.wp P Q a w → K a) → SF P l.toArray w K N l L) : (Code.seq (.region id l.toArray false) y).wp P Q a w := seq_still fun K hK => h K hK a H
theorem sO {id : Nat} (H : Fr N L a) (h : SF P l.toArray w (fun a => Q .normal a w) N l L) : (Code.region id l.toArray false).wp P Q a w := one_still (h a H)
theorem sD {y : Code} {id : Nat} (H : Fr N L a) (h : ∀ K : Act → Prop, (∀ a, y.wp P Q a w.drew → K a) → SF P l.toArray w.drew K N l L) (hm : P.follows .mixedOrders = true := by kernel_rfl) (hB : Region.lexB .any l.toArray = true := by kernel_rfl) :
    (Code.seq (.region id l.toArray true) y).wp P Q a w := seq_stillD hm hB fun K hK => h K hK a H
theorem sP {id : Nat} (H : Fr N L a) (h : SF P l.toArray w.drew (fun a => Q .normal a w.drew) N l L) (hm : P.follows .mixedOrders = true := by kernel_rfl) (hB : Region.lexB .any l.toArray = true := by kernel_rfl) : (Code.region id l.toArray true).wp P Q a w := one_stillD hm hB (h a H)

/-! ## tests -/
variable {x y : Code} {t : Nat} {m n : Int}
theorem condL (H : Fr N L a) (hc : look L t = some (.bool (decide (m < n)))) (h1 : m < n → x.wp P Q a w) (h2 : n ≤ m → y.wp P Q a w) : (Code.cond (.tmp t) x y).wp P Q a w :=
  cond_ H hc (fun h => h1 (by simpa using h)) (fun h => h2 (by simpa using h))
theorem condG (H : Fr N L a) (hc : look L t = some (.bool (decide (m ≤ n)))) (h1 : m ≤ n → x.wp P Q a w) (h2 : n < m → y.wp P Q a w) : (Code.cond (.tmp t) x y).wp P Q a w :=
  cond_ H hc (fun h => h1 (by simpa using h)) (fun h => h2 (by simpa using h))
theorem condE (H : Fr N L a) (hc : look L t = some (.bool (decide (m = n)))) (h1 : m = n → x.wp P Q a w) (h2 : ¬ m = n → y.wp P Q a w) : (Code.cond (.tmp t) x y).wp P Q a w :=
  cond_ H hc (fun h => h1 (by simpa using h)) (fun h => h2 (by simpa using h))
theorem condN (H : Fr N L a) (hc : look L t = some (.bool (!decide (m = n)))) (h1 : ¬ m = n → x.wp P Q a w) (h2 : m = n → y.wp P Q a w) : (Code.cond (.tmp t) x y).wp P Q a w :=
  cond_ H hc (fun h => h1 (by simpa using h)) (fun h => h2 (by simpa using h))
end

/-! ## statements in an open order -/
def runq (N : FN) (ops : Array Oper) : Nat → List (Nat × Bool) → List (Nat × Value) → Option (List (Nat × Bool) × List (Nat × Value))
  | 0, π, L => some (π, L)
  | n + 1, (i, true) :: π, L => match ops[i]? with
    | some ⟨some d, op, _, _, _, none⟩ => match exec1 L op with
      | some v => match Nat.blt d N.n with
        | true => runq N ops n π ((d, v) :: L)
        | false => none
      | none => none
    | _ => none
  | _ + 1, _, _ => none

section
variable {P : Program} {ops : Array Oper} {w w0 : World} {C : World → Prop} {Qn : Act → World → Prop} {π π' : List (Nat × Bool)} {N : FN} {L L' : List (Nat × Value)} {a : Act} {ty : TypeId} {pos : String} {af : Array Edge} {op : Op} {d i : Nat}
def QF (P : Program) (ops : Array Oper) (C : World → Prop) (Qn : Act → World → Prop) (w : World) (N : FN) (π : List (Nat × Bool)) (L : List (Nat × Value)) : Prop := ∀ a, Fr N L a → wq P ops C Qn π a w
theorem qF (H : Fr N L a) (h : QF P ops C Qn w N π L) : wq P ops C Qn π a w := h a H
theorem qK (h : ∀ a, Fr N L a → wq P ops C Qn π a w) : QF P ops C Qn w N π L := h
theorem qd {v : Value} (hi : ops[i]? = some ⟨some d, op, ty, pos, af, none⟩) (h : ∀ w', C w' → Does P L ⟨some d, op, ty, pos, af, none⟩ w' v) (k : QF P ops C Qn w N π ((d, v) :: L)) (hd : Nat.blt d N.n = true := by rfl) : QF P ops C Qn w N ((i, true) :: π) L :=
  fun a H => wq_does H hi hd h k
theorem qr1 : ∀ (n : Nat) (π : List (Nat × Bool)) (L : List (Nat × Value)), runq N ops n π L = some (π', L') → QF P ops C Qn w N π' L' → QF P ops C Qn w N π L := by
  intro n
  induction n with
  | zero => intro π L h k; simp only [runq, Option.some.injEq, Prod.mk.injEq] at h; obtain ⟨rfl, rfl⟩ := h; exact k
  | succ n ih =>
    intro π L h k
    cases π with
    | nil => simp only [runq] at h; cases h
    | cons p π =>
      obtain ⟨i, b⟩ := p
      cases b with
      | false => simp only [runq] at h; cases h
      | true =>
        simp only [runq] at h
        split at h
        · rename_i d op _ _ _ ho
          split at h
          · rename_i v hv
            split at h
            · rename_i hd
              exact qd ho (fun _ _ => exec1_ok hv) (ih _ _ h k) hd
            · cases h
          · cases h
        · cases h
theorem qr (n : Nat) (h : runq N ops n π L = some (π', L')) (k : QF P ops C Qn w N π' L') : QF P ops C Qn w N π L := qr1 n π L h k
end
end Go.Proofs.Ytlmddkekeoebcaa
