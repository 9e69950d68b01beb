/- ChK. Printed by gen.py. -/
import Derived.Test.YtopmadlgolnmfaaFacts
import Derived.Test.YtopmadlgolnmfaaF1
import Derived.Test.YtopmadlgolnmfaaE2
import Derived.Test.YtopmadlgolnmfaaE1
import Derived.Laws.StructEq
import Derived.Tactics
import Derived.Tactics2
namespace Go.Proofs.Ytopmadlgolnmfaa
open Go.RowKit
set_option linter.unusedVariables false
set_option linter.unusedSimpArgs false
set_option maxRecDepth 100000
set_option maxHeartbeats 4000000


theorem capp_one {k sz : Nat} {cell : Nat → Nat → Value} {vs : List Value} (h : ∀ j, j < sz → vs.getD j undef = cell k j) : ∀ q j, q < k + 1 → j < sz → capp k cell (fun k' j => ([vs].getD k' []).getD j undef) q j = cell q j := by
  intro q j hq hj
  unfold capp
  by_cases h1 : q < k
  · rw [if_pos h1]
  · rw [if_neg h1]
    have e : q = k := by omega
    subst e
    rw [Nat.sub_self]
    exact h j hj
theorem one_vs {sz : Nat} {vs : List Value} (h : ∀ j, j < sz → (vs.getD j undef).oneCell' = true) : ∀ k j, k < 1 → j < sz → (([vs].getD k []).getD j undef).oneCell' = true := by
  intro k j hk hj
  have e : k = 0 := by omega
  subst e
  exact h j hj
theorem two {p : Nat → Prop} (h0 : p 0) (h1 : p 1) : ∀ j, j < 2 → p j := by
  intro j hj
  have : j = 0 ∨ j = 1 := by omega
  rcases this with rfl | rfl
  · exact h0
  · exact h1
theorem ret_imp {P : Program} {f : Nat} {vs : Array Value} {w : World} {R R' : Value → World → Prop} (h : Calls P f vs w (Ret R)) (k : ∀ v w', R v w' → R' v w') : Calls P f vs w (Ret R') := Calls.mono h fun e w' he => by
  cases e with
  | returned v => exact k v w' he
  | _ => exact he


theorem chain_within (n lo hi : Int) (w : World) :
    Calls Try.prog 76 [.int .i64 n, .int .i64 lo, .int .i64 hi].toArray w (Ret (fun v w' => v = .bool (decide (lo ≤ n) && decide (n ≤ hi)) ∧ w' = w)) := by
 refine enter Try.func76 rfl Try.ntmps76 rfl (fun a H => ?_)
 have S := St.start w
 refine sS H fun K1 k1=>sr 1 rfl <| sE ?_;clear H a;intro a H
 refine k1 _ ?_;clear k1 K1
 replace H := H.keep [0, 1, 2] rfl
 refine sS H fun K2 k2=>sr 4 rfl <| sg 3 3 10 13 true rfl rfl (fun hg4 => sy hg4 <| sr 1 rfl <| sy hg4 <| sr 1 rfl <| sy hg4 <| sr 1 rfl <| sz 3 rfl rfl rfl) <| sa rfl rfl rfl <| sr 1 rfl <| sE ?_;clear H a;intro a H
 refine k2 _ ?_;clear k2 K2
 refine wp_ret ?_
 refine ret1 (fn := Try.f76) rfl H rfl ?_
 exact ⟨rfl, rfl⟩

theorem ref_from (n lo hi : Int) (w : World) :
    Calls Try.prog 95 [.int .i64 n, .int .i64 lo, .int .i64 hi].toArray w (Ret (fun v w' => v = .bool (decide (lo ≤ n) && decide (n ≤ hi)) ∧ w' = w)) := by
 refine enter Try.func95 rfl Try.ntmps95 rfl (fun a H => ?_)
 have S := St.start w
 refine sS H fun K1 k1=>sr 1 rfl <| sE ?_;clear H a;intro a H
 refine k1 _ ?_;clear k1 K1
 replace H := H.keep [0, 1, 2] rfl
 refine sS H fun K2 k2=>sr 4 rfl <| sg 3 3 10 13 true rfl rfl (fun hg4 => sy hg4 <| sr 1 rfl <| sy hg4 <| sr 1 rfl <| sy hg4 <| sr 1 rfl <| sz 3 rfl rfl rfl) <| sa rfl rfl rfl <| sr 1 rfl <| sE ?_;clear H a;intro a H
 refine k2 _ ?_;clear k2 K2
 refine wp_ret ?_
 refine ret1 (fn := Try.f95) rfl H rfl ?_
 exact ⟨rfl, rfl⟩

set_option maxRecDepth 100000 in
theorem eq_span (a b c d : Int) (w : World) : (Op.equalIn 10000 68 (.agg #[.int .i64 a, .int .i64 b]) (.agg #[.int .i64 c, .int .i64 d])).run Try.prog w = .ok (a == c && b == d) w := by
  have u3 := Try.underlying3
  have a3 := Try.isAgg3
  have z3 := Try.sizeOf3
  have hS : Try.prog.underlying 68 = some (.struct (Try.prog.fieldsOf 68)) := by kernel_rfl
  have hp : Try.prog.stoodInHeld 68 = false := by kernel_rfl
  rw [show (10000 : Nat) = 9999 + 1 from rfl, run_equalIn_agg w 9999 68 _ _ hS hp]
  simp only [Program.fieldsOf, Try.underlying68]
  go_simp
  by_cases h1 : a = c <;> by_cases h2 : b = d <;> simp [h1, h2]
set_option maxRecDepth 100000 in
theorem guard_span (op : BinOp) (x y : Operand) (a b c d : Int) (w : World) : (eqGuard op 68 x y (.agg #[.int .i64 a, .int .i64 b]) (.agg #[.int .i64 c, .int .i64 d])).run Try.prog w = .ok () w := by
  have h : Try.prog.eqGuardType Try.prog.depth 68 = false := by kernel_rfl
  have hpg : ∀ w, (program : Sem Program).run Try.prog w = .ok Try.prog w := fun _ => rfl
  cases op <;> simp [eqGuard, h, hpg]
section
variable {P : Program} {w : World} {L : List (Nat × Value)} {ty : TypeId} {pos : String} {af : Array Edge} {dd : Option Nat} {g : Option (Nat × Bool)}
set_option maxRecDepth 100000 in
theorem does_neq_span {x y : Operand} {yt : TypeId} {a b c d : Int} (hx : ev L x = some (.agg [.int .i64 a, .int .i64 b].toArray)) (hy : ev L y = some (.agg [.int .i64 c, .int .i64 d].toArray)) :
    Does Try.prog L ⟨dd, .binOp .neq 68 x y yt, ty, pos, af, g⟩ w (.bool (!(decide (a = c) && decide (b = d)))) := fun ρ hρ => by
  have e : (binOp .neq 68 (.agg #[.int .i64 a, .int .i64 b]) (.agg #[.int .i64 c, .int .i64 d])).run Try.prog w = .ok (.bool (!(decide (a = c) && decide (b = d)))) w := by
    simp only [binOp]
    simp [Op.equal, Op.maxDepth, eq_span]
    by_cases h1 : a = c <;> by_cases h2 : b = d <;> simp [h1, h2]
  simp only [execOp, hρ _ _ hx, hρ _ _ hy]
  simp [guard_span, e]
end


end Go.Proofs.Ytopmadlgolnmfaa
