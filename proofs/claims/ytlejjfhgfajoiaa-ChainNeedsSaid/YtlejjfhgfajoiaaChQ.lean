/- ChQ. Printed by gen.py. -/
import Derived.Test.YtlejjfhgfajoiaaChO
import Derived.Test.YtlejjfhgfajoiaaEx
namespace Go.Proofs.Ytlejjfhgfajoiaa
open Go.RowKit
set_option linter.unusedVariables false
set_option linter.unusedSimpArgs false


section
variable {P : Program} {w : World} {L : List (Nat × Value)} {ty : TypeId} {pos : String} {af : Array Edge} {dd : Option Nat} {g : Option (Nat × Bool)} {N : Nat} {a : Act}
theorem retA1A1 {fn : Func} {R : Value → World → Prop} {t ty b o u t' ty' b' o' u' : Nat} {vs vs' : List Value} {v v' : Value} (hr : fn.results = #[.cell t ty, .tmp u, .cell t' ty', .tmp u']) (H : Fr N L a) (ht : look L t = some (.pointer (some ⟨b, o, none⟩))) (ht' : look L t' = some (.pointer (some ⟨b', o', none⟩)))
    (hA : Agg P ty) (hs : Sz P ty vs.length) (hc : ∀ (j : Nat) v, vs[j]? = some v → w.cell? ⟨b, o + j, none⟩ = some v) (hA' : Agg P ty') (hs' : Sz P ty' vs'.length) (hc' : ∀ (j : Nat) v, vs'[j]? = some v → w.cell? ⟨b', o' + j, none⟩ = some v) (hu : look L u = some v) (hu' : look L u' = some v') (h : R (.tuple #[.agg vs.toArray, v, .agg vs'.toArray, v']) w) : bodyPost P fn (Ret R) .ret a w := by
  have hl := run_loadAgg (P := P) hA hs hc
  simp only [Instr.loadAt, Instr.sureAddr] at hl
  have hl2 := run_loadAgg (P := P) hA' hs' hc'
  simp only [Instr.loadAt, Instr.sureAddr] at hl2
  refine bodyPost_ret (v := .tuple #[.agg vs.toArray, v, .agg vs'.toArray, v']) ?_ H.defs h
  have hl' : (loadVar ty ⟨b, o, none⟩).run P w = .ok (.agg vs.toArray) w := by simpa using hl
  have hl2' : (loadVar ty' ⟨b', o', none⟩).run P w = .ok (.agg vs'.toArray) w := by simpa using hl2
  simp [results, hr, H.at_ _ _ ht, H.at_ _ _ ht', H.at_ _ _ hu, H.at_ _ _ hu', asAddr, hl', hl2']
theorem does_eql_same {x y : Operand} {xt yt : TypeId} {k : IntKind} {m n : Int} (hx : ev L x = some (.int k m)) (hy : ev L y = some (.int k n)) (h : m = n) : Does P L ⟨dd, .binOp .eql xt x y yt, ty, pos, af, g⟩ w (.bool true) := by
  have h1 := does_eql (P := P) (d := dd) (w := w) (ty := ty) (pos := pos) (af := af) (g := g) (xt := xt) (yt := yt) hx hy
  rw [decide_eq_true h] at h1
  exact h1
set_option maxRecDepth 100000 in
theorem does_eql_span {x y : Operand} {yt : TypeId} {a b c d : Int} (hx : ev L x = some (.agg [.int .i64 a, .int .i64 b].toArray)) (hy : ev L y = some (.agg [.int .i64 c, .int .i64 d].toArray)) :
    Does Try.prog L ⟨dd, .binOp .eql 42 x y yt, ty, pos, af, g⟩ w (.bool (decide (a = c) && decide (b = d))) := fun ρ hρ => by
  have e : (binOp .eql 42 (.agg #[.int .i64 a, .int .i64 b]) (.agg #[.int .i64 c, .int .i64 d])).run Try.prog w = .ok (.bool (decide (a = c) && decide (b = d))) w := by
    simp only [binOp]
    simp [Op.equal, Op.maxDepth, eq_span]
    by_cases h1 : a = c <;> by_cases h2 : b = d <;> simp [h1, h2]
  simp only [execOp, hρ _ _ hx, hρ _ _ hy]
  simp [guard_span, e]
end
/-- Are two lists of numbers equal. -/
def sameB (n m : Nat) (f g : Nat → Int) : Bool := decide (n = m) && (List.range n).all fun k => decide (f k = g k)
theorem sameB_self (n : Nat) (f g : Nat → Int) (h : ∀ k, k < n → f k = g k) : sameB n n f g = true := by
  unfold sameB
  simp only [decide_true, Bool.true_and, List.all_eq_true, decide_eq_true_eq]
  exact fun k hk => h k (List.mem_range.1 hk)
theorem ex_run : runO ⟨4, 100, 110⟩ exL 0 4 = (421, 425, 0) := by
  have hw : wholeO ⟨4, 100, 110⟩ exL (isRunB ⟨4, 100, 110⟩ 0 4) = .ok exM6 := by
    unfold wholeO
    rw [if_neg (by rw [show checkE ⟨4, 100, 110⟩ exL = 0 from ex_check]; simp), show isRunB ⟨4, 100, 110⟩ 0 4 = true from rfl, if_pos rfl, show weaveW ⟨4, 100, 110⟩ exL yes = some exM6 from ex_weave]
  unfold runO
  rw [hw]
  show (-(exM6 4 0), exM6 0 4, (0 : Int)) = _
  rw [ex40, ex04]; rfl
theorem ex_wit : witO ⟨4, 100, 110⟩ exL 0 4 421 = .ok (witN exS) := by
  have hw : wholeO ⟨4, 100, 110⟩ exL (isRunB ⟨4, 100, 110⟩ 0 4) = .ok exM6 := by
    unfold wholeO
    rw [if_neg (by rw [show checkE ⟨4, 100, 110⟩ exL = 0 from ex_check]; simp), show isRunB ⟨4, 100, 110⟩ 0 4 = true from rfl, if_pos rfl, show weaveW ⟨4, 100, 110⟩ exL yes = some exM6 from ex_weave]
  unfold witO
  rw [hw]
  show (if -(exM6 4 0) ≤ 421 ∧ 421 ≤ exM6 0 4 then Except.ok (witN exS) else Except.error 1) = _
  rw [ex40, ex04]; rfl
theorem ex_due : dueO exP exU 0 1000 = (160000, 0) := by
  rw [due_is ex_checkP (by decide) ex_at (by decide)]
  rfl


set_option maxRecDepth 100000 in
set_option maxHeartbeats 1000000 in
theorem law_Far (A : Option Addr) (n cp : Nat) (w : World) :
    Calls Try.prog 17 [.slice A n cp].toArray w (Ret (fun v w' => v = .bool (decide (42 < (n : Int))) ∧ w' = w)) := by
  refine enter Try.func17 rfl Try.ntmps17 rfl (fun a H => ?_)
  have S := St.start w
  refine seq_still (fun K1 hK1 => ?_)
  refine still_does H rfl (does_assign rfl) ?_; clear H a; intro a H
  refine wpStill_nil (hK1 _ ?_)
  clear hK1 K1
  replace H := H.keep [0] rfl
  refine seq_still (fun K2 hK2 => ?_)
  refine still_does H rfl (does_move rfl) ?_; clear H a; intro a H
  refine still_does H rfl (does_len sl_24 rfl) ?_; clear H a; intro a H
  refine still_does H rfl (does_gtr rfl rfl) ?_; clear H a; intro a H
  refine still_does H rfl (does_assign rfl) ?_; clear H a; intro a H
  refine wpStill_nil (hK2 _ ?_)
  clear hK2 K2
  refine wp_ret ?_
  refine ret1 (fn := Try.f17) rfl H rfl ?_
  exact ⟨rfl, rfl⟩

set_option maxRecDepth 100000 in
set_option maxHeartbeats 1000000 in
theorem law_sameInts (A B : Option Addr) (n m ca cb : Nat) (f h : Nat → Int) (w : World) (hA : InS w noF 1 A n (fun k _ => .int .i64 (f k))) (hB : InS w noF 1 B m (fun k _ => .int .i64 (h k))) (hn : n ≤ 1000000) (hm : m ≤ 1000000) :
    Calls Try.prog 22 [.slice A n ca, .slice B m cb].toArray w (Ret (fun v w' => v = .bool (sameB n m f h) ∧ St w noF [] w')) := by
  refine enter Try.func22 rfl Try.ntmps22 rfl (fun a H => ?_)
  have S := St.start w
  refine seq_still (fun K1 hK1 => ?_)
  refine still_does H rfl (does_assign rfl) ?_; clear H a; intro a H
  refine wpStill_nil (hK1 _ ?_)
  clear hK1 K1
  refine wp_seq_k (fun K2 hK2 => ?_)
  replace H := H.keep [0, 1] rfl
  refine seq_still (fun K3 hK3 => ?_)
  refine still_does H rfl (does_move rfl) ?_; clear H a; intro a H
  refine still_does H rfl (does_len sl_29 rfl) ?_; clear H a; intro a H
  refine still_does H rfl (does_move rfl) ?_; clear H a; intro a H
  refine still_does H rfl (does_len sl_29 rfl) ?_; clear H a; intro a H
  refine still_does H rfl (does_neq rfl rfl) ?_; clear H a; intro a H
  refine wpStill_nil (hK3 _ ?_)
  clear hK3 K3
  refine cond_ H rfl (fun hc1 => ?_) (fun hc1 => ?_)
  · try simp only [Bool.or_eq_true, Bool.and_eq_true, Bool.not_eq_true', Bool.or_eq_false_iff, Bool.and_eq_false_iff, Bool.not_eq_false', decide_eq_true_eq, decide_eq_false_iff_not, Int.not_lt, Int.not_le] at hc1
    replace H := H.keep [] rfl
    refine seq_still (fun K4 hK4 => ?_)
    refine still_does H rfl (does_assign rfl) ?_; clear H a; intro a H
    refine wpStill_nil (hK4 _ ?_)
    clear hK4 K4
    refine wp_ret ?_
    refine ret1 (fn := Try.f22) rfl H rfl ?_
    refine ⟨?_, (S.sel [] rfl rfl)⟩; unfold sameB; rw [decide_eq_false (by omega)]; rfl
  · try simp only [Bool.or_eq_true, Bool.and_eq_true, Bool.not_eq_true', Bool.or_eq_false_iff, Bool.and_eq_false_iff, Bool.not_eq_false', decide_eq_true_eq, decide_eq_false_iff_not, Int.not_lt, Int.not_le] at hc1
    refine wp_skip ?_
    refine hK2 _ _ ?_
    refine wp_seq_k (fun K5 hK5 => ?_)
    replace H := H.keep [0, 1] rfl
    refine seq_still (fun K6 hK6 => ?_)
    refine still_does H rfl (does_assign rfl) ?_; clear H a; intro a H
    refine wpStill_nil (hK6 _ ?_)
    clear hK6 K6
    refine wp_block ?_
    refine loop_st (X := Nat) (R0 := _) [0, 1] H rfl (fun k => [(5, .int .i64 (k : Int))]) (fun k => []) (fun g k => k ≤ n ∧ g + k = n ∧ (List.range k).all (fun q => decide (f q = h q)) = true) (n) 0 ?_ (S.sel [] rfl rfl) (H.keep [5, 0, 1] rfl) ?_
    · exact ⟨by omega, by omega, rfl⟩
    · intro g1 x1 a w1 hp S H K7 hK7
      obtain ⟨k, rfl⟩ : ∃ y, y = x1 := ⟨_, rfl⟩
      skip
      refine wp_seq_k (fun K8 hK8 => ?_)
      replace H := H.keep [0, 1, 5] rfl
      refine seq_still (fun K9 hK9 => ?_)
      refine still_does H rfl (does_move rfl) ?_; clear H a; intro a H
      refine still_does H rfl (does_move rfl) ?_; clear H a; intro a H
      refine still_does H rfl (does_len sl_29 rfl) ?_; clear H a; intro a H
      refine still_does H rfl (does_lss rfl rfl) ?_; clear H a; intro a H
      refine wpStill_nil (hK9 _ ?_)
      clear hK9 K9
      refine cond_ H rfl (fun hc2 => ?_) (fun hc2 => ?_)
      · try simp only [Bool.or_eq_true, Bool.and_eq_true, Bool.not_eq_true', Bool.or_eq_false_iff, Bool.and_eq_false_iff, Bool.not_eq_false', decide_eq_true_eq, decide_eq_false_iff_not, Int.not_lt, Int.not_le] at hc2
        refine wp_skip ?_
        refine hK8 _ _ ?_
        refine wp_seq_k (fun K10 hK10 => ?_)
        refine wp_block ?_
        replace H := H.keep [0, 1, 5] rfl
        refine seq_stillD (by kernel_rfl) (by kernel_rfl) (fun K11 hK11 => ?_)
        replace S := S.drew
        refine still_does H rfl (does_move rfl) ?_; clear H a; intro a H
        refine still_does H rfl (does_move rfl) ?_; clear H a; intro a H
        refine still_does H rfl (by first | exact does_indexN sl_29 sz_3 rfl rfl (by first | exact hA.adr (by omega) | exact hB.adr (by omega)) (by first | omega | omega) | exact does_index sl_29 sz_3 rfl rfl (by first | exact hA.adr (by omega) | exact hB.adr (by omega)) (by omega) (by first | omega | omega)) ?_; clear H a; intro a H
        refine still_does H rfl (does_load one_3 rfl (by first | exact hA.rd S (by omega) (by omega) | exact hB.rd S (by omega) (by omega))) ?_; clear H a; intro a H
        refine still_does H rfl (does_move rfl) ?_; clear H a; intro a H
        refine still_does H rfl (does_move rfl) ?_; clear H a; intro a H
        refine still_does H rfl (by first | exact does_indexN sl_29 sz_3 rfl rfl (by first | exact hA.adr (by omega) | exact hB.adr (by omega)) (by first | omega | omega) | exact does_index sl_29 sz_3 rfl rfl (by first | exact hA.adr (by omega) | exact hB.adr (by omega)) (by omega) (by first | omega | omega)) ?_; clear H a; intro a H
        refine still_does H rfl (does_load one_3 rfl (by first | exact hA.rd S (by omega) (by omega) | exact hB.rd S (by omega) (by omega))) ?_; clear H a; intro a H
        refine still_does H rfl (does_neq rfl rfl) ?_; clear H a; intro a H
        refine wpStill_nil (hK11 _ ?_)
        clear hK11 K11
        refine cond_ H rfl (fun hc3 => ?_) (fun hc3 => ?_)
        · try simp only [Bool.or_eq_true, Bool.and_eq_true, Bool.not_eq_true', Bool.or_eq_false_iff, Bool.and_eq_false_iff, Bool.not_eq_false', decide_eq_true_eq, decide_eq_false_iff_not, Int.not_lt, Int.not_le] at hc3
          replace H := H.keep [] rfl
          refine seq_still (fun K12 hK12 => ?_)
          refine still_does H rfl (does_assign rfl) ?_; clear H a; intro a H
          refine wpStill_nil (hK12 _ ?_)
          clear hK12 K12
          refine wp_ret ?_
          refine ret1 (fn := Try.f22) rfl H rfl ?_
          refine ⟨?_, (S.sel [] rfl rfl)⟩; unfold sameB; rw [range_all_false (k := k) (by omega) (by simp only [decide_eq_false_iff_not]; omega), Bool.and_false]
        · try simp only [Bool.or_eq_true, Bool.and_eq_true, Bool.not_eq_true', Bool.or_eq_false_iff, Bool.and_eq_false_iff, Bool.not_eq_false', decide_eq_true_eq, decide_eq_false_iff_not, Int.not_lt, Int.not_le] at hc3
          refine wp_skip ?_
          refine hK10 _ _ ?_
          replace H := H.keep [0, 1, 5] rfl
          refine one_still ?_
          refine still_does H rfl (does_move rfl) ?_; clear H a; intro a H
          refine still_does H rfl (does_add rfl rfl (by unfold i64ok; omega)) ?_; clear H a; intro a H
          refine still_does H rfl (does_assign rfl) ?_; clear H a; intro a H
          refine wpStill_nil ?_
          exact hK7 (g1 - 1) (k + 1) a _ (by omega) (⟨by omega, by omega, by rw [range_all_succ (n := 0), hp.2.2]; simp only [Bool.true_and, decide_eq_true_eq]; omega⟩) (S.sel [] rfl rfl) (H.keep [5, 0, 1] rfl)
      · try simp only [Bool.or_eq_true, Bool.and_eq_true, Bool.not_eq_true', Bool.or_eq_false_iff, Bool.and_eq_false_iff, Bool.not_eq_false', decide_eq_true_eq, decide_eq_false_iff_not, Int.not_lt, Int.not_le] at hc2
        refine wp_exit ?_
        refine hK5 _ _ ?_
        replace H := H.keep [] rfl
        refine seq_still (fun K14 hK14 => ?_)
        refine still_does H rfl (does_assign rfl) ?_; clear H a; intro a H
        refine wpStill_nil (hK14 _ ?_)
        clear hK14 K14
        refine wp_ret ?_
        refine ret1 (fn := Try.f22) rfl H rfl ?_
        refine ⟨?_, (S.sel [] rfl rfl)⟩; have hk9 : n = k := by omega
        unfold sameB; rw [hk9, hp.2.2, decide_eq_true (by omega)]; rfl

end Go.Proofs.Ytlejjfhgfajoiaa
