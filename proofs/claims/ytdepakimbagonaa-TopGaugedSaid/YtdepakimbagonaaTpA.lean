/- TpA. Printed by gen.py. -/
import Derived.Test.YtdepakimbagonaaChH
import Derived.Test.YtdepakimbagonaaEx
import Derived.Test.YtdepakimbagonaaE2
import Derived.Laws.StructEq
import Derived.Tactics
import Derived.Tactics2
namespace Go.Proofs.Ytdepakimbagonaa
open Go.RowKit
set_option linter.unusedVariables false
set_option linter.unusedSimpArgs false
set_option maxRecDepth 100000
set_option maxHeartbeats 4000000


theorem four {p : Nat → Prop} (h0 : p 0) (h1 : p 1) (h2 : p 2) (h3 : p 3) : ∀ j, j < 4 → p j := by
  intro j hj
  match j, hj with
  | 0, _ => exact h0
  | 1, _ => exact h1
  | 2, _ => exact h2
  | 3, _ => exact h3


set_option maxRecDepth 100000 in
theorem eq_span (a b c d : Int) (w : World) : (Op.equalIn 10000 36 (.agg #[.int .i64 a, .int .i64 b]) (.agg #[.int .i64 c, .int .i64 d])).run Try.prog w = .ok (a == c && b == d) w := by
  have u3 := Try.underlying3
  have a3 := Try.isAgg3
  have z3 := Try.sizeOf3
  have hS : Try.prog.underlying 36 = some (.struct (Try.prog.fieldsOf 36)) := by kernel_rfl
  have hp : Try.prog.stoodInHeld 36 = false := by kernel_rfl
  rw [show (10000 : Nat) = 9999 + 1 from rfl, run_equalIn_agg w 9999 36 _ _ hS hp]
  simp only [Program.fieldsOf, Try.underlying36]
  go_simp
  by_cases h1 : a = c <;> by_cases h2 : b = d <;> simp [h1, h2]
set_option maxRecDepth 100000 in
theorem guard_span (op : BinOp) (x y : Operand) (a b c d : Int) (w : World) : (eqGuard op 36 x y (.agg #[.int .i64 a, .int .i64 b]) (.agg #[.int .i64 c, .int .i64 d])).run Try.prog w = .ok () w := by
  have h : Try.prog.eqGuardType Try.prog.depth 36 = false := by kernel_rfl
  have hpg : ∀ w, (program : Sem Program).run Try.prog w = .ok Try.prog w := fun _ => rfl
  cases op <;> simp [eqGuard, h, hpg]
section
variable {P : Program} {w : World} {L : List (Nat × Value)} {ty : TypeId} {pos : String} {af : Array Edge} {dd : Option Nat} {g : Option (Nat × Bool)}
set_option maxRecDepth 100000 in
theorem does_neq_span {x y : Operand} {yt : TypeId} {a b c d : Int} (hx : ev L x = some (.agg [.int .i64 a, .int .i64 b].toArray)) (hy : ev L y = some (.agg [.int .i64 c, .int .i64 d].toArray)) :
    Does Try.prog L ⟨dd, .binOp .neq 36 x y yt, ty, pos, af, g⟩ w (.bool (!(decide (a = c) && decide (b = d)))) := fun ρ hρ => by
  have e : (binOp .neq 36 (.agg #[.int .i64 a, .int .i64 b]) (.agg #[.int .i64 c, .int .i64 d])).run Try.prog w = .ok (.bool (!(decide (a = c) && decide (b = d)))) w := by
    simp only [binOp]
    simp [Op.equal, Op.maxDepth, eq_span]
    by_cases h1 : a = c <;> by_cases h2 : b = d <;> simp [h1, h2]
  simp only [execOp, hρ _ _ hx, hρ _ _ hy]
  simp [guard_span, e]
end


section
variable {P : Program} {w : World} {L : List (Nat × Value)} {ty : TypeId} {pos : String} {af : Array Edge} {dd : Option Nat} {g : Option (Nat × Bool)} {a : Act}
theorem retA1A1 {fn : Func} {R : Value → World → Prop} {t ty b o u t' ty' b' o' u' : Nat} {vs vs' : List Value} {v v' : Value} (hr : fn.results = #[.cell t ty, .tmp u, .cell t' ty', .tmp u']) {q_ : Nat} (H : Fr ⟨q_, []⟩ L a) (ht : look L t = some (.pointer (some ⟨b, o, none⟩))) (ht' : look L t' = some (.pointer (some ⟨b', o', none⟩)))
    (hA : Agg P ty) (hs : Sz P ty vs.length) (hc : ∀ (j : Nat) v, vs[j]? = some v → w.cell? ⟨b, o + j, none⟩ = some v) (hA' : Agg P ty') (hs' : Sz P ty' vs'.length) (hc' : ∀ (j : Nat) v, vs'[j]? = some v → w.cell? ⟨b', o' + j, none⟩ = some v) (hu : look L u = some v) (hu' : look L u' = some v') (h : R (.tuple #[.agg vs.toArray, v, .agg vs'.toArray, v']) w) : bodyPost P fn (Ret R) .ret a w := by
  have hl := run_loadAgg (P := P) hA hs hc
  simp only [Instr.loadAt, Instr.sureAddr] at hl
  have hl2 := run_loadAgg (P := P) hA' hs' hc'
  simp only [Instr.loadAt, Instr.sureAddr] at hl2
  refine bodyPost_ret (v := .tuple #[.agg vs.toArray, v, .agg vs'.toArray, v']) ?_ H.defs h
  have hl' : (loadVar ty ⟨b, o, none⟩).run P w = .ok (.agg vs.toArray) w := by simpa using hl
  have hl2' : (loadVar ty' ⟨b', o', none⟩).run P w = .ok (.agg vs'.toArray) w := by simpa using hl2
  simp [results, hr, H.at_ _ _ ht, H.at_ _ _ ht', H.at_ _ _ hu, H.at_ _ _ hu', asAddr, hl', hl2']
theorem does_eql_same {x y : Operand} {xt yt : TypeId} {k : IntKind} {m n : Int} (hx : ev L x = some (.int k m)) (hy : ev L y = some (.int k n)) (h : m = n) : Does P L ⟨dd, .binOp .eql xt x y yt, ty, pos, af, g⟩ w (.bool true) := by
  have h1 := does_eql (P := P) (d := dd) (w := w) (ty := ty) (pos := pos) (af := af) (g := g) (xt := xt) (yt := yt) hx hy
  rw [decide_eq_true h] at h1
  exact h1
set_option maxRecDepth 100000 in
theorem does_eql_span {x y : Operand} {yt : TypeId} {a b c d : Int} (hx : ev L x = some (.agg [.int .i64 a, .int .i64 b].toArray)) (hy : ev L y = some (.agg [.int .i64 c, .int .i64 d].toArray)) :
    Does Try.prog L ⟨dd, .binOp .eql 36 x y yt, ty, pos, af, g⟩ w (.bool (decide (a = c) && decide (b = d))) := fun ρ hρ => by
  have e : (binOp .eql 36 (.agg #[.int .i64 a, .int .i64 b]) (.agg #[.int .i64 c, .int .i64 d])).run Try.prog w = .ok (.bool (decide (a = c) && decide (b = d))) w := by
    simp only [binOp]
    simp [Op.equal, Op.maxDepth, eq_span]
    by_cases h1 : a = c <;> by_cases h2 : b = d <;> simp [h1, h2]
  simp only [execOp, hρ _ _ hx, hρ _ _ hy]
  simp [guard_span, e]
end
/-- Are two lists of numbers equal. -/
def sameB (n m : Nat) (f g : Nat → Int) : Bool := decide (n = m) && (List.range n).all fun k => decide (f k = g k)
theorem sameB_self (n : Nat) (f g : Nat → Int) (h : ∀ k, k < n → f k = g k) : sameB n n f g = true := by
  unfold sameB
  simp only [decide_true, Bool.true_and, List.all_eq_true, decide_eq_true_eq]
  exact fun k hk => h k (List.mem_range.1 hk)
theorem ex_run : runO ⟨4, 100, 110⟩ exL 0 4 = (421, 425, 0) := by
  have hw : wholeO ⟨4, 100, 110⟩ exL (isRunB ⟨4, 100, 110⟩ 0 4) = .ok exM6 := by
    unfold wholeO
    rw [if_neg (by rw [show checkE ⟨4, 100, 110⟩ exL = 0 from ex_check]; simp), show isRunB ⟨4, 100, 110⟩ 0 4 = true from rfl, if_pos rfl, show weaveW ⟨4, 100, 110⟩ exL yes = some exM6 from ex_weave]
  unfold runO
  rw [hw]
  show (-(exM6 4 0), exM6 0 4, (0 : Int)) = _
  rw [ex40, ex04]; rfl
theorem ex_wit : witO ⟨4, 100, 110⟩ exL 0 4 421 = .ok (witN exS) := by
  have hw : wholeO ⟨4, 100, 110⟩ exL (isRunB ⟨4, 100, 110⟩ 0 4) = .ok exM6 := by
    unfold wholeO
    rw [if_neg (by rw [show checkE ⟨4, 100, 110⟩ exL = 0 from ex_check]; simp), show isRunB ⟨4, 100, 110⟩ 0 4 = true from rfl, if_pos rfl, show weaveW ⟨4, 100, 110⟩ exL yes = some exM6 from ex_weave]
  unfold witO
  rw [hw]
  show (if -(exM6 4 0) ≤ 421 ∧ 421 ≤ exM6 0 4 then Except.ok (witN exS) else Except.error 1) = _
  rw [ex40, ex04]; rfl


theorem law_Far (A : Option Addr) (n cp : Nat) (w : World) :
    Calls Try.prog 5 [.slice A n cp].toArray w (Ret (fun v w' => v = .bool (decide (42 < (n : Int))) ∧ w' = w)) := by
 refine enter Try.func5 rfl Try.ntmps5 rfl (fun a H => ?_)
 have S := St.start w
 refine sS H fun K1 k1=>sr 1 rfl <| sE ?_;clear H a;intro a H
 refine k1 _ ?_;clear k1 K1
 refine sS H fun K2 k2=>sr 1 rfl <| sL sl_24 rfl <| sr 2 rfl <| sE ?_;clear H a;intro a H
 refine k2 _ ?_;clear k2 K2
 refine wp_ret ?_
 refine ret1 (fn := Try.f5) rfl H rfl ?_
 exact ⟨rfl, rfl⟩

theorem wit_ok {o : Except Int (Nat → Int)} {f : Nat → Int} {w w' : World} {n : Nat} {v : Value} (h : o = .ok f) (hw : WitR w n o v w') : ∃ A' c', v = .tuple #[.slice A' n c', .int .i64 0] ∧ St w noF [ownM 3 1 A' n c' (fun k _ => .int .i64 (f k))] w' := by
  subst h; exact hw
theorem wit_err {o : Except Int (Nat → Int)} {e : Int} {w w' : World} {n : Nat} {v : Value} (h : o = .error e) (hw : WitR w n o v w') : v = .tuple #[.slice none 0 0, .int .i64 e] ∧ St w noF [] w' := by
  subst h; exact hw
theorem due_val {p : Part} {l : List Use} {cls day a b : Int} (h : dueO p l cls day = (a, b)) : (Value.tuple #[.int .i64 (dueO p l cls day).1, .int .i64 (dueO p l cls day).2]) = .tuple #[.int .i64 a, .int .i64 b] := by rw [h]
theorem cells2 {sz : Nat} {c d : Nat → Nat → Value} (h0 : ∀ j, j < sz → c 0 j = d 0 j) (h1 : ∀ j, j < sz → c 1 j = d 1 j) : ∀ k j, k < 2 → j < sz → c k j = d k j := by
  intro k j hk hj
  have : k = 0 ∨ k = 1 := by omega
  rcases this with rfl | rfl
  · exact h0 j hj
  · exact h1 j hj
theorem six {p : Nat → Prop} (h0 : p 0) (h1 : p 1) (h2 : p 2) (h3 : p 3) (h4 : p 4) (h5 : p 5) : ∀ j, j < 6 → p j := by
  intro j hj
  have : j = 0 ∨ j = 1 ∨ j = 2 ∨ j = 3 ∨ j = 4 ∨ j = 5 := by omega
  rcases this with rfl | rfl | rfl | rfl | rfl | rfl <;> assumption
theorem lit4 {k j : Nat} (hk : k < 4) (hj : j < 1) : (([[.int .i64 100], [.int .i64 103], [.int .i64 108], [.int .i64 110]] : List (List Value)).getD k []).getD j undef = .int .i64 (exW k) := by
  have h0 : j = 0 := by omega
  subst h0
  have : k = 0 ∨ k = 1 ∨ k = 2 ∨ k = 3 := by omega
  rcases this with rfl | rfl | rfl | rfl <;> rfl


end Go.Proofs.Ytdepakimbagonaa
