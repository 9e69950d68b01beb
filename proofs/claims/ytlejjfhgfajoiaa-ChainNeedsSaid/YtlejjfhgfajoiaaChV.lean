/- ChV. Printed by gen.py. -/
import Derived.Test.YtlejjfhgfajoiaaChR
import Derived.Test.YtlejjfhgfajoiaaChP
namespace Go.Proofs.Ytlejjfhgfajoiaa
open Go.RowKit
set_option linter.unusedVariables false
set_option linter.unusedSimpArgs false


section
variable {P : Program} {w : World} {L : List (Nat × Value)} {ty : TypeId} {pos : String} {af : Array Edge} {dd : Option Nat} {g : Option (Nat × Bool)} {N : Nat} {a : Act}
theorem does_neq_same {x y : Operand} {xt yt : TypeId} {k : IntKind} {m n : Int} (hx : ev L x = some (.int k m)) (hy : ev L y = some (.int k n)) (h : m = n) : Does P L ⟨dd, .binOp .neq xt x y yt, ty, pos, af, g⟩ w (.bool false) := by
  have h1 := does_neq (P := P) (d := dd) (w := w) (ty := ty) (pos := pos) (af := af) (g := g) (xt := xt) (yt := yt) hx hy
  rw [decide_eq_true h] at h1
  exact h1
theorem does_eql_span_same {x y : Operand} {yt : TypeId} {a b c d : Int} (hx : ev L x = some (.agg [.int .i64 a, .int .i64 b].toArray)) (hy : ev L y = some (.agg [.int .i64 c, .int .i64 d].toArray)) (h : a = c) (h' : b = d) :
    Does Try.prog L ⟨dd, .binOp .eql 42 x y yt, ty, pos, af, g⟩ w (.bool true) := by
  have h1 := does_eql_span (dd := dd) (w := w) (ty := ty) (pos := pos) (af := af) (g := g) (yt := yt) hx hy
  rw [decide_eq_true h, decide_eq_true h'] at h1
  exact h1
end
/-- Are two lists of spans equal. -/
def sameSp (n m : Nat) (f h f' h' : Nat → Int) : Bool := decide (n = m) && (List.range n).all fun k => decide (f k = f' k) && decide (h k = h' k)
theorem sameSp_self (n : Nat) (f h f' h' : Nat → Int) (e : ∀ k, k < n → f k = f' k ∧ h k = h' k) : sameSp n n f h f' h' = true := by
  unfold sameSp
  simp only [decide_true, Bool.true_and, List.all_eq_true, Bool.and_eq_true, decide_eq_true_eq]
  exact fun k hk => e k (List.mem_range.1 hk)
/-- What Links leaves. -/
def LnkR (w : World) (n : Nat) (o : Except Int IM) (v : Value) (w' : World) : Prop := match o with
  | .error e => v = .tuple #[.slice none 0 0, .int .i64 e] ∧ St w noF [] w'
  | .ok M => ∃ A' c', v = .tuple #[.slice A' n c', .int .i64 0] ∧ St w noF [ownM 42 2 A' n c' (sp2 (fun k => -(M (k + 1) k)) (fun k => M k (k + 1)))] w'
theorem lnk_err {o : Except Int IM} {e : Int} {w w' : World} {n : Nat} {v : Value} (h : o = .error e) (hw : LnkR w n o v w') : v = .tuple #[.slice none 0 0, .int .i64 e] ∧ St w noF [] w' := by
  subst h; exact hw
theorem lnk_ok {o : Except Int IM} {M : IM} {w w' : World} {n : Nat} {v : Value} (h : o = .ok M) (hw : LnkR w n o v w') : ∃ A' c', v = .tuple #[.slice A' n c', .int .i64 0] ∧ St w noF [ownM 42 2 A' n c' (sp2 (fun k => -(M (k + 1) k)) (fun k => M k (k + 1)))] w' := by
  subst h; exact hw


set_option maxRecDepth 100000 in
set_option maxHeartbeats 1000000 in
theorem law_sameSpans (A B : Option Addr) (n m ca cb : Nat) (f h f' h' : Nat → Int) (w : World) (hA : InS w noF 2 A n (sp2 f h)) (hB : InS w noF 2 B m (sp2 f' h')) (hn : n ≤ 1000000) (hm : m ≤ 1000000) :
    Calls Try.prog 27 [.slice A n ca, .slice B m cb].toArray w (Ret (fun v w' => v = .bool (sameSp n m f h f' h') ∧ St w noF [] w')) := by
  refine enter Try.func27 rfl Try.ntmps27 rfl (fun a H => ?_)
  have S := St.start w
  refine seq_still (fun K1 hK1 => ?_)
  refine still_does H rfl (does_assign rfl) ?_; clear H a; intro a H
  refine wpStill_nil (hK1 _ ?_)
  clear hK1 K1
  refine wp_seq_k (fun K2 hK2 => ?_)
  replace H := H.keep [0, 1] rfl
  refine seq_still (fun K3 hK3 => ?_)
  refine still_does H rfl (does_move rfl) ?_; clear H a; intro a H
  refine still_does H rfl (does_len sl_37 rfl) ?_; clear H a; intro a H
  refine still_does H rfl (does_move rfl) ?_; clear H a; intro a H
  refine still_does H rfl (does_len sl_37 rfl) ?_; clear H a; intro a H
  refine still_does H rfl (does_neq rfl rfl) ?_; clear H a; intro a H
  refine wpStill_nil (hK3 _ ?_)
  clear hK3 K3
  refine cond_ H rfl (fun hc1 => ?_) (fun hc1 => ?_)
  · try simp only [Bool.or_eq_true, Bool.and_eq_true, Bool.not_eq_true', Bool.or_eq_false_iff, Bool.and_eq_false_iff, Bool.not_eq_false', decide_eq_true_eq, decide_eq_false_iff_not, Int.not_lt, Int.not_le] at hc1
    replace H := H.keep [] rfl
    refine seq_still (fun K4 hK4 => ?_)
    refine still_does H rfl (does_assign rfl) ?_; clear H a; intro a H
    refine wpStill_nil (hK4 _ ?_)
    clear hK4 K4
    refine wp_ret ?_
    refine ret1 (fn := Try.f27) rfl H rfl ?_
    refine ⟨?_, (S.sel [] rfl rfl)⟩; unfold sameSp; rw [decide_eq_false (by omega)]; rfl
  · try simp only [Bool.or_eq_true, Bool.and_eq_true, Bool.not_eq_true', Bool.or_eq_false_iff, Bool.and_eq_false_iff, Bool.not_eq_false', decide_eq_true_eq, decide_eq_false_iff_not, Int.not_lt, Int.not_le] at hc1
    refine wp_skip ?_
    refine hK2 _ _ ?_
    refine wp_seq_k (fun K5 hK5 => ?_)
    replace H := H.keep [0, 1] rfl
    refine seq_still (fun K6 hK6 => ?_)
    refine still_does H rfl (does_assign rfl) ?_; clear H a; intro a H
    refine wpStill_nil (hK6 _ ?_)
    clear hK6 K6
    refine wp_block ?_
    refine loop_st (X := Nat) (R0 := _) [0, 1] H rfl (fun k => [(5, .int .i64 (k : Int))]) (fun k => []) (fun g k => k ≤ n ∧ g + k = n ∧ (List.range k).all (fun q => decide (f q = f' q) && decide (h q = h' q)) = true) (n) 0 ?_ (S.sel [] rfl rfl) (H.keep [5, 0, 1] rfl) ?_
    · exact ⟨by omega, by omega, rfl⟩
    · intro g1 x1 a w1 hp S H K7 hK7
      obtain ⟨k, rfl⟩ : ∃ y, y = x1 := ⟨_, rfl⟩
      skip
      refine wp_seq_k (fun K8 hK8 => ?_)
      replace H := H.keep [0, 1, 5] rfl
      refine seq_still (fun K9 hK9 => ?_)
      refine still_does H rfl (does_move rfl) ?_; clear H a; intro a H
      refine still_does H rfl (does_move rfl) ?_; clear H a; intro a H
      refine still_does H rfl (does_len sl_37 rfl) ?_; clear H a; intro a H
      refine still_does H rfl (does_lss rfl rfl) ?_; clear H a; intro a H
      refine wpStill_nil (hK9 _ ?_)
      clear hK9 K9
      refine cond_ H rfl (fun hc2 => ?_) (fun hc2 => ?_)
      · try simp only [Bool.or_eq_true, Bool.and_eq_true, Bool.not_eq_true', Bool.or_eq_false_iff, Bool.and_eq_false_iff, Bool.not_eq_false', decide_eq_true_eq, decide_eq_false_iff_not, Int.not_lt, Int.not_le] at hc2
        refine wp_skip ?_
        refine hK8 _ _ ?_
        refine wp_seq_k (fun K10 hK10 => ?_)
        refine wp_block ?_
        replace H := H.keep [0, 1, 5] rfl
        refine seq_stillD (by kernel_rfl) (by kernel_rfl) (fun K11 hK11 => ?_)
        replace S := S.drew
        refine still_does H rfl (does_move rfl) ?_; clear H a; intro a H
        refine still_does H rfl (does_move rfl) ?_; clear H a; intro a H
        refine still_does H rfl (by first | exact does_indexN sl_37 sz_42 rfl rfl (by first | exact hA.adr (by omega) | exact hB.adr (by omega)) (by first | omega | omega) | exact does_index sl_37 sz_42 rfl rfl (by first | exact hA.adr (by omega) | exact hB.adr (by omega)) (by omega) (by first | omega | omega)) ?_; clear H a; intro a H
        refine still_does H rfl (by first | exact does_loadIn agg_42 sz_42 rfl S hA (by omega) (by omega) | exact does_loadIn agg_42 sz_42 rfl S hB (by omega) (by omega)) ?_; clear H a; intro a H
        refine still_does H rfl (does_move rfl) ?_; clear H a; intro a H
        refine still_does H rfl (does_move rfl) ?_; clear H a; intro a H
        refine still_does H rfl (by first | exact does_indexN sl_37 sz_42 rfl rfl (by first | exact hA.adr (by omega) | exact hB.adr (by omega)) (by first | omega | omega) | exact does_index sl_37 sz_42 rfl rfl (by first | exact hA.adr (by omega) | exact hB.adr (by omega)) (by omega) (by first | omega | omega)) ?_; clear H a; intro a H
        refine still_does H rfl (by first | exact does_loadIn agg_42 sz_42 rfl S hA (by omega) (by omega) | exact does_loadIn agg_42 sz_42 rfl S hB (by omega) (by omega)) ?_; clear H a; intro a H
        refine still_does H rfl (does_neq_span rfl rfl) ?_; clear H a; intro a H
        refine wpStill_nil (hK11 _ ?_)
        clear hK11 K11
        refine cond_ H rfl (fun hc3 => ?_) (fun hc3 => ?_)
        · skip
          replace H := H.keep [] rfl
          refine seq_still (fun K12 hK12 => ?_)
          refine still_does H rfl (does_assign rfl) ?_; clear H a; intro a H
          refine wpStill_nil (hK12 _ ?_)
          clear hK12 K12
          refine wp_ret ?_
          refine ret1 (fn := Try.f27) rfl H rfl ?_
          refine ⟨?_, (S.sel [] rfl rfl)⟩; unfold sameSp; rw [range_all_false (k := k) (by omega) (by simp only [Bool.not_eq_true'] at hc3; exact hc3), Bool.and_false]
        · skip
          refine wp_skip ?_
          refine hK10 _ _ ?_
          replace H := H.keep [0, 1, 5] rfl
          refine one_still ?_
          refine still_does H rfl (does_move rfl) ?_; clear H a; intro a H
          refine still_does H rfl (does_add rfl rfl (by unfold i64ok; omega)) ?_; clear H a; intro a H
          refine still_does H rfl (does_assign rfl) ?_; clear H a; intro a H
          refine wpStill_nil ?_
          exact hK7 (g1 - 1) (k + 1) a _ (by omega) (⟨by omega, by omega, by rw [range_all_succ (n := 0), hp.2.2]; simp only [Bool.true_and]; simpa using hc3⟩) (S.sel [] rfl rfl) (H.keep [5, 0, 1] rfl)
      · try simp only [Bool.or_eq_true, Bool.and_eq_true, Bool.not_eq_true', Bool.or_eq_false_iff, Bool.and_eq_false_iff, Bool.not_eq_false', decide_eq_true_eq, decide_eq_false_iff_not, Int.not_lt, Int.not_le] at hc2
        refine wp_exit ?_
        refine hK5 _ _ ?_
        replace H := H.keep [] rfl
        refine seq_still (fun K14 hK14 => ?_)
        refine still_does H rfl (does_assign rfl) ?_; clear H a; intro a H
        refine wpStill_nil (hK14 _ ?_)
        clear hK14 K14
        refine wp_ret ?_
        refine ret1 (fn := Try.f27) rfl H rfl ?_
        refine ⟨?_, (S.sel [] rfl rfl)⟩; have hk9 : n = k := by omega
        unfold sameSp; rw [hk9, hp.2.2, decide_eq_true (by omega)]; rfl

set_option maxRecDepth 100000 in
set_option maxHeartbeats 1000000 in
theorem law_ChainLinks (links pitch limit : Int) (l : List Gauge) (A : Option Addr) (cp : Nat) (sf st sl : Int) (w : World) (hl : InS w noF 4 A l.length (gcell l)) (hn : l.length ≤ 9223372036854775807) :
    Calls Try.prog 4 [.agg [.int .i64 links, .int .i64 pitch, .int .i64 limit].toArray, .slice A l.length cp, .agg [.int .i64 sf, .int .i64 st, .int .i64 sl].toArray].toArray w (Ret (fun v w' => v = .bool true ∧ St w noF [] w')) := by
  refine enter Try.func4 rfl Try.ntmps4 rfl (fun a H => ?_)
  have S := St.start w
  refine seq_list (fun K1 hK1 => ?_)
  refine list_box H rfl S rfl rfl ?_; clear H a S; intro b3 _ a hb3 hbw3 S H
  refine list_box H rfl S rfl rfl ?_; clear H a S; intro b5 _ a hb5 hbw5 S H
  refine list_does H rfl (does_assign rfl) ?_; clear H a; intro a H
  refine hK1 _ _ ?_
  clear hK1 K1
  refine wp_seq_k (fun K2 hK2 => ?_)
  replace H := H.keep [1, 3, 5] rfl
  refine seq_still (fun K3 hK3 => ?_)
  refine still_does H rfl (does_move rfl) ?_; clear H a; intro a H
  refine still_call H rfl rfl Try.func17 rfl rfl (law_Far A l.length cp _) ?_; clear H a; intro a H
  refine wpStill_nil (hK3 _ ?_)
  clear hK3 K3
  refine cond_ H rfl (fun hc1 => ?_) (fun hc1 => ?_)
  · try simp only [Bool.or_eq_true, Bool.and_eq_true, Bool.not_eq_true', Bool.or_eq_false_iff, Bool.and_eq_false_iff, Bool.not_eq_false', decide_eq_true_eq, decide_eq_false_iff_not, Int.not_lt, Int.not_le] at hc1
    replace H := H.keep [] rfl
    refine seq_list (fun K4 hK4 => ?_)
    refine list_call H rfl rfl Try.func18 rfl rfl (law_works _) ?_; clear H a
    rintro _ _ a ⟨rfl, S2⟩ H
    replace S := S.call S2; clear S2
    refine list_does H rfl (does_assign rfl) ?_; clear H a; intro a H
    refine hK4 _ _ ?_
    clear hK4 K4
    refine wp_ret ?_
    refine ret1 (fn := Try.f4) rfl H rfl ?_
    exact ⟨rfl, (S.sel [] rfl rfl)⟩
  · try simp only [Bool.or_eq_true, Bool.and_eq_true, Bool.not_eq_true', Bool.or_eq_false_iff, Bool.and_eq_false_iff, Bool.not_eq_false', decide_eq_true_eq, decide_eq_false_iff_not, Int.not_lt, Int.not_le] at hc1
    refine wp_skip ?_
    refine hK2 _ _ ?_
    rcases hW : wholeO (⟨links, pitch, limit⟩ : Chain) l true with e | M
    · skip
      skip
      replace H := H.keep [1, 3, 5] rfl
      refine seq_list (fun K5 hK5 => ?_)
      refine list_does H rfl (does_move rfl) ?_; clear H a; intro a H
      refine list_call H rfl rfl Try.func20 rfl rfl (ref_CopyGauges l A cp _ (hl.now S) (by omega)) ?_; clear H a
      rintro _ _ a ⟨A2, c2, rfl, S2⟩ H
      replace S := S.call S2; clear S2
      refine list_does H rfl (does_assign rfl) ?_; clear H a; intro a H
      refine hK5 _ _ ?_
      clear hK5 K5
      refine wp_seq_k (fun K6 hK6 => ?_)
      replace H := H.keep [1, 3, 5, 7] rfl
      replace S := S.drew
      refine seq_wq [(0, true), (1, true), (3, true), (4, true), (2, false), (5, false), (6, true)] (by kernel_rfl) (by kernel_rfl) (S.sel [0, 1, 2] rfl rfl) (fun K7 hK7 => ?_)
      refine wq_does H rfl rfl (fun _ S => by first | exact does_loadBox agg_23 sz_23 rfl S (i := 0) rfl rfl | exact does_loadBox agg_23 sz_23 rfl S (i := 1) rfl rfl | exact does_loadBox agg_23 sz_23 rfl S (i := 2) rfl rfl) ?_; clear H a; intro a H
      refine wq_does H rfl rfl (fun _ S => does_move rfl) ?_; clear H a; intro a H
      refine wq_does H rfl rfl (fun _ S => by first | exact does_loadBox agg_23 sz_23 rfl S (i := 0) rfl rfl | exact does_loadBox agg_23 sz_23 rfl S (i := 1) rfl rfl | exact does_loadBox agg_23 sz_23 rfl S (i := 2) rfl rfl) ?_; clear H a; intro a H
      refine wq_does H rfl rfl (fun _ S => does_move rfl) ?_; clear H a; intro a H
      refine wq_eff rfl ?_
      refine list_call H rfl rfl Try.func23 rfl rfl (chain_Check (⟨links, pitch, limit⟩ : Chain) l A2 c2 _ (ownM.inS S (i := 0) rfl) hn) ?_; clear H a
      rintro _ _ a ⟨rfl, S2⟩ H
      replace S := S.call S2; clear S2
      refine wpList_nil (And.intro (S.sel [0, 1, 2] rfl rfl) ?_)
      refine wq_eff rfl ?_
      refine list_call H rfl rfl Try.func24 rfl rfl (ref_Check links pitch limit l A cp _ (hl.now S) hn) ?_; clear H a
      rintro _ _ a ⟨rfl, S2⟩ H
      replace S := S.call S2; clear S2
      refine wpList_nil (And.intro (S.sel [0, 1, 2] rfl rfl) ?_)
      refine wq_does H rfl rfl (fun _ S => does_neq_same rfl rfl rfl) ?_; clear H a; intro a H
      refine wq_nil ?_
      refine hK7 _ _ ?_
      clear hK7 K7
      refine cond_ H rfl (fun hc2 => ?_) (fun hc2 => ?_)
      · skip
        simp at hc2
      · skip
        refine wp_skip ?_
        refine hK6 _ _ ?_
        replace H := H.keep [1, 3, 5, 7] rfl
        refine seq_list (fun K8 hK8 => ?_)
        refine list_does H rfl (by first | exact does_loadBox agg_23 sz_23 rfl S (i := 0) rfl rfl | exact does_loadBox agg_23 sz_23 rfl S (i := 1) rfl rfl | exact does_loadBox agg_23 sz_23 rfl S (i := 2) rfl rfl) ?_; clear H a; intro a H
        refine list_does H rfl (does_move rfl) ?_; clear H a; intro a H
        refine list_call H rfl rfl Try.func25 rfl rfl (ret_imp (chain_Links links pitch limit l A2 c2 _ (ownM.inS S (i := 0) rfl) hn) (fun _ _ h => lnk_err hW h)) ?_; clear H a
        rintro _ _ a ⟨rfl, S2⟩ H
        replace S := S.call S2; clear S2
        refine list_does H rfl (does_move rfl) ?_; clear H a; intro a H
        refine list_does H rfl (does_extract rfl rfl) ?_; clear H a; intro a H
        refine list_does H rfl (does_extract rfl rfl) ?_; clear H a; intro a H
        refine list_does H rfl (does_assign rfl) ?_; clear H a; intro a H
        refine list_does H rfl (does_assign rfl) ?_; clear H a; intro a H
        refine hK8 _ _ ?_
        clear hK8 K8
        replace H := H.keep [1, 3, 5, 7, 8, 9] rfl
        refine seq_list (fun K9 hK9 => ?_)
        refine list_does H rfl (by first | exact does_loadBox agg_23 sz_23 rfl S (i := 0) rfl rfl | exact does_loadBox agg_23 sz_23 rfl S (i := 1) rfl rfl | exact does_loadBox agg_23 sz_23 rfl S (i := 2) rfl rfl) ?_; clear H a; intro a H
        refine list_does H rfl (does_move rfl) ?_; clear H a; intro a H
        refine list_call H rfl rfl Try.func26 rfl rfl (ret_imp (ref_Links links pitch limit l A cp _ (hl.now S) hn) (fun _ _ h => lnk_err hW h)) ?_; clear H a
        rintro _ _ a ⟨rfl, S2⟩ H
        replace S := S.call S2; clear S2
        refine list_does H rfl (does_move rfl) ?_; clear H a; intro a H
        refine list_does H rfl (does_extract rfl rfl) ?_; clear H a; intro a H
        refine list_does H rfl (does_extract rfl rfl) ?_; clear H a; intro a H
        refine list_does H rfl (does_assign rfl) ?_; clear H a; intro a H
        refine list_does H rfl (does_assign rfl) ?_; clear H a; intro a H
        refine hK9 _ _ ?_
        clear hK9 K9
        refine wp_seq_k (fun K10 hK10 => ?_)
        replace H := H.keep [1, 3, 5, 7, 8, 9, 10, 11] rfl
        refine seq_list (fun K11 hK11 => ?_)
        refine list_does H rfl (does_move rfl) ?_; clear H a; intro a H
        refine list_does H rfl (does_move rfl) ?_; clear H a; intro a H
        refine list_does H rfl (does_neq_same rfl rfl rfl) ?_; clear H a; intro a H
        refine list_does H rfl (does_move rfl) ?_; clear H a; intro a H
        refine list_yes H rfl rfl ?_
        refine list_does H rfl (does_move rfl) ?_; clear H a; intro a H
        refine list_yes H rfl rfl ?_
        refine list_does H rfl (does_move rfl) ?_; clear H a; intro a H
        refine list_yes H rfl rfl ?_
        refine list_call H rfl rfl Try.func27 rfl rfl (ret_imp (law_sameSpans none none 0 0 0 0 (fun _ => 0) (fun _ => 0) (fun _ => 0) (fun _ => 0) _ InS.nil InS.nil (by decide) (by decide)) (fun _ _ h => (⟨h.1.trans (congrArg Value.bool (sameSp_self 0 _ _ _ _ (fun _ h => absurd h (Nat.not_lt_zero _)))), h.2⟩ : _ ∧ _))) ?_; clear H a
        rintro _ _ a ⟨rfl, S2⟩ H
        replace S := S.call S2; clear S2
        refine list_yes H rfl rfl ?_
        refine list_does H rfl (does_not rfl) ?_; clear H a; intro a H
        refine list_does H rfl (by first | exact does_or rfl rfl rfl | exact does_pick rfl rfl rfl) ?_; clear H a; intro a H
        refine hK11 _ _ ?_
        clear hK11 K11
        refine cond_ H rfl (fun hc3 => ?_) (fun hc3 => ?_)
        · skip
          cases hc3
        · skip
          refine wp_skip ?_
          refine hK10 _ _ ?_
          replace H := H.keep [1, 3, 5, 7] rfl
          refine seq_list (fun K12 hK12 => ?_)
          refine list_does H rfl (by first | exact does_loadBox agg_23 sz_23 rfl S (i := 0) rfl rfl | exact does_loadBox agg_23 sz_23 rfl S (i := 1) rfl rfl | exact does_loadBox agg_23 sz_23 rfl S (i := 2) rfl rfl) ?_; clear H a; intro a H
          refine list_does H rfl (does_move rfl) ?_; clear H a; intro a H
          refine list_does H rfl (by first | exact does_field_pt fo_26_0 rfl | exact does_field fo_26_0 rfl) ?_; clear H a; intro a H
          refine list_does H rfl (does_load one_3 rfl (by first | exact boxM.rd S (i := 0) rfl rfl | exact boxM.rd S (i := 1) rfl rfl | exact boxM.rd S (i := 2) rfl rfl)) ?_; clear H a; intro a H
          refine list_does H rfl (by first | exact does_field_pt fo_26_1 rfl | exact does_field fo_26_1 rfl) ?_; clear H a; intro a H
          refine list_does H rfl (does_load one_3 rfl (by first | exact boxM.rd S (i := 0) rfl rfl | exact boxM.rd S (i := 1) rfl rfl | exact boxM.rd S (i := 2) rfl rfl)) ?_; clear H a; intro a H
          refine list_call H rfl rfl Try.func28 rfl rfl (chain_Run links pitch limit l A2 c2 sf st _ (ownM.inS S (i := 0) rfl) hn) ?_; clear H a
          rintro _ _ a ⟨rfl, S2⟩ H
          replace S := S.call S2; clear S2
          refine list_does H rfl (does_move rfl) ?_; clear H a; intro a H
          refine list_does H rfl (does_extract rfl rfl) ?_; clear H a; intro a H
          refine list_does H rfl (does_extract rfl rfl) ?_; clear H a; intro a H
          refine list_alloc H rfl S ze_42 ?_; clear H a S; intro b12 _ a hb12 hbw12 S H
          first | (refine list_store H S (i := 0) rfl rfl rfl rfl sz_42 rfl rfl ?_) | (refine list_store H S (i := 1) rfl rfl rfl rfl sz_42 rfl rfl ?_) | (refine list_store H S (i := 2) rfl rfl rfl rfl sz_42 rfl rfl ?_) | (refine list_store H S (i := 3) rfl rfl rfl rfl sz_42 rfl rfl ?_) | (refine list_store_own H S (i := 0) rfl rfl rfl (by omega) (by omega) sz_42 rfl ?_) | (refine list_store_own H S (i := 1) rfl rfl rfl (by omega) (by omega) sz_42 rfl ?_) | (refine list_store_own H S (i := 2) rfl rfl rfl (by omega) (by omega) sz_42 rfl ?_) | (refine list_store_own H S (i := 3) rfl rfl rfl (by omega) (by omega) sz_42 rfl ?_)
          clear H a S; intro _ a S H
          refine list_does H rfl (does_assign rfl) ?_; clear H a; intro a H
          refine hK12 _ _ ?_
          clear hK12 K12
          replace H := H.keep [1, 3, 5, 9, 12] rfl
          refine seq_list (fun K13 hK13 => ?_)
          refine list_does H rfl (by first | exact does_loadBox agg_23 sz_23 rfl S (i := 0) rfl rfl | exact does_loadBox agg_23 sz_23 rfl S (i := 1) rfl rfl | exact does_loadBox agg_23 sz_23 rfl S (i := 2) rfl rfl | exact does_loadBox agg_23 sz_23 rfl S (i := 3) rfl rfl) ?_; clear H a; intro a H
          refine list_does H rfl (does_move rfl) ?_; clear H a; intro a H
          refine list_does H rfl (by first | exact does_field_pt fo_26_0 rfl | exact does_field fo_26_0 rfl) ?_; clear H a; intro a H
          refine list_does H rfl (does_load one_3 rfl (by first | exact boxM.rd S (i := 0) rfl rfl | exact boxM.rd S (i := 1) rfl rfl | exact boxM.rd S (i := 2) rfl rfl | exact boxM.rd S (i := 3) rfl rfl)) ?_; clear H a; intro a H
          refine list_does H rfl (by first | exact does_field_pt fo_26_1 rfl | exact does_field fo_26_1 rfl) ?_; clear H a; intro a H
          refine list_does H rfl (does_load one_3 rfl (by first | exact boxM.rd S (i := 0) rfl rfl | exact boxM.rd S (i := 1) rfl rfl | exact boxM.rd S (i := 2) rfl rfl | exact boxM.rd S (i := 3) rfl rfl)) ?_; clear H a; intro a H
          refine list_call H rfl rfl Try.func29 rfl rfl (ref_Run links pitch limit l A cp sf st _ (hl.now S) hn) ?_; clear H a
          rintro _ _ a ⟨rfl, S2⟩ H
          replace S := S.call S2; clear S2
          refine list_does H rfl (does_move rfl) ?_; clear H a; intro a H
          refine list_does H rfl (does_extract rfl rfl) ?_; clear H a; intro a H
          refine list_does H rfl (does_extract rfl rfl) ?_; clear H a; intro a H
          refine list_alloc H rfl S ze_42 ?_; clear H a S; intro b13 _ a hb13 hbw13 S H
          first | (refine list_store H S (i := 0) rfl rfl rfl rfl sz_42 rfl rfl ?_) | (refine list_store H S (i := 1) rfl rfl rfl rfl sz_42 rfl rfl ?_) | (refine list_store H S (i := 2) rfl rfl rfl rfl sz_42 rfl rfl ?_) | (refine list_store H S (i := 3) rfl rfl rfl rfl sz_42 rfl rfl ?_) | (refine list_store H S (i := 4) rfl rfl rfl rfl sz_42 rfl rfl ?_) | (refine list_store_own H S (i := 0) rfl rfl rfl (by omega) (by omega) sz_42 rfl ?_) | (refine list_store_own H S (i := 1) rfl rfl rfl (by omega) (by omega) sz_42 rfl ?_) | (refine list_store_own H S (i := 2) rfl rfl rfl (by omega) (by omega) sz_42 rfl ?_) | (refine list_store_own H S (i := 3) rfl rfl rfl (by omega) (by omega) sz_42 rfl ?_) | (refine list_store_own H S (i := 4) rfl rfl rfl (by omega) (by omega) sz_42 rfl ?_)
          clear H a S; intro _ a S H
          refine list_does H rfl (does_assign rfl) ?_; clear H a; intro a H
          refine hK13 _ _ ?_
          clear hK13 K13
          replace H := H.keep [9, 11, 12, 13] rfl
          refine seq_list (fun K14 hK14 => ?_)
          refine list_does H rfl (by first | exact does_loadBox agg_42 sz_42 rfl S (i := 0) rfl rfl | exact does_loadBox agg_42 sz_42 rfl S (i := 1) rfl rfl | exact does_loadBox agg_42 sz_42 rfl S (i := 2) rfl rfl | exact does_loadBox agg_42 sz_42 rfl S (i := 3) rfl rfl | exact does_loadBox agg_42 sz_42 rfl S (i := 4) rfl rfl) ?_; clear H a; intro a H
          refine list_does H rfl (by first | exact does_loadBox agg_42 sz_42 rfl S (i := 0) rfl rfl | exact does_loadBox agg_42 sz_42 rfl S (i := 1) rfl rfl | exact does_loadBox agg_42 sz_42 rfl S (i := 2) rfl rfl | exact does_loadBox agg_42 sz_42 rfl S (i := 3) rfl rfl | exact does_loadBox agg_42 sz_42 rfl S (i := 4) rfl rfl) ?_; clear H a; intro a H
          refine list_does H rfl (does_eql_span_same rfl rfl rfl rfl) ?_; clear H a; intro a H
          refine list_does H rfl (does_move rfl) ?_; clear H a; intro a H
          refine list_yes H rfl rfl ?_
          refine list_does H rfl (does_move rfl) ?_; clear H a; intro a H
          refine list_yes H rfl rfl ?_
          refine list_does H rfl (does_move rfl) ?_; clear H a; intro a H
          refine list_yes H rfl rfl ?_
          refine list_does H rfl (does_eql_same rfl rfl rfl) ?_; clear H a; intro a H
          refine list_does H rfl (by first | exact does_and rfl rfl rfl | exact does_pick rfl rfl rfl) ?_; clear H a; intro a H
          refine list_does H rfl (does_move rfl) ?_; clear H a; intro a H
          refine list_yes H rfl rfl ?_
          refine list_call H rfl rfl Try.func18 rfl rfl (law_works _) ?_; clear H a
          rintro _ _ a ⟨rfl, S2⟩ H
          replace S := S.call S2; clear S2
          refine list_does H rfl (by first | exact does_and rfl rfl rfl | exact does_pick rfl rfl rfl) ?_; clear H a; intro a H
          refine list_does H rfl (does_assign rfl) ?_; clear H a; intro a H
          refine hK14 _ _ ?_
          clear hK14 K14
          refine wp_ret ?_
          refine ret1 (fn := Try.f4) rfl H rfl ?_
          exact ⟨rfl, (S.sel [] rfl rfl)⟩
    · skip
      have hlk : links.toNat ≤ 1000000 := by
        have h9 : ¬ (24 < links) := by
          intro h
          have : wholeO (⟨links, pitch, limit⟩ : Chain) l true = .error (checkE (⟨links, pitch, limit⟩ : Chain) l) := by unfold wholeO; rw [if_pos (by unfold checkE; rw [if_neg (by unfold chainOk; simp only [decide_eq_true_eq]; omega)]; decide)]
          rw [this] at hW; cases hW
        omega
      replace H := H.keep [1, 3, 5] rfl
      refine seq_list (fun K15 hK15 => ?_)
      refine list_does H rfl (does_move rfl) ?_; clear H a; intro a H
      refine list_call H rfl rfl Try.func20 rfl rfl (ref_CopyGauges l A cp _ (hl.now S) (by omega)) ?_; clear H a
      rintro _ _ a ⟨A2, c2, rfl, S2⟩ H
      replace S := S.call S2; clear S2
      refine list_does H rfl (does_assign rfl) ?_; clear H a; intro a H
      refine hK15 _ _ ?_
      clear hK15 K15
      refine wp_seq_k (fun K16 hK16 => ?_)
      replace H := H.keep [1, 3, 5, 7] rfl
      replace S := S.drew
      refine seq_wq [(0, true), (1, true), (3, true), (4, true), (2, false), (5, false), (6, true)] (by kernel_rfl) (by kernel_rfl) (S.sel [0, 1, 2] rfl rfl) (fun K17 hK17 => ?_)
      refine wq_does H rfl rfl (fun _ S => by first | exact does_loadBox agg_23 sz_23 rfl S (i := 0) rfl rfl | exact does_loadBox agg_23 sz_23 rfl S (i := 1) rfl rfl | exact does_loadBox agg_23 sz_23 rfl S (i := 2) rfl rfl) ?_; clear H a; intro a H
      refine wq_does H rfl rfl (fun _ S => does_move rfl) ?_; clear H a; intro a H
      refine wq_does H rfl rfl (fun _ S => by first | exact does_loadBox agg_23 sz_23 rfl S (i := 0) rfl rfl | exact does_loadBox agg_23 sz_23 rfl S (i := 1) rfl rfl | exact does_loadBox agg_23 sz_23 rfl S (i := 2) rfl rfl) ?_; clear H a; intro a H
      refine wq_does H rfl rfl (fun _ S => does_move rfl) ?_; clear H a; intro a H
      refine wq_eff rfl ?_
      refine list_call H rfl rfl Try.func23 rfl rfl (chain_Check (⟨links, pitch, limit⟩ : Chain) l A2 c2 _ (ownM.inS S (i := 0) rfl) hn) ?_; clear H a
      rintro _ _ a ⟨rfl, S2⟩ H
      replace S := S.call S2; clear S2
      refine wpList_nil (And.intro (S.sel [0, 1, 2] rfl rfl) ?_)
      refine wq_eff rfl ?_
      refine list_call H rfl rfl Try.func24 rfl rfl (ref_Check links pitch limit l A cp _ (hl.now S) hn) ?_; clear H a
      rintro _ _ a ⟨rfl, S2⟩ H
      replace S := S.call S2; clear S2
      refine wpList_nil (And.intro (S.sel [0, 1, 2] rfl rfl) ?_)
      refine wq_does H rfl rfl (fun _ S => does_neq_same rfl rfl rfl) ?_; clear H a; intro a H
      refine wq_nil ?_
      refine hK17 _ _ ?_
      clear hK17 K17
      refine cond_ H rfl (fun hc4 => ?_) (fun hc4 => ?_)
      · skip
        simp at hc4
      · skip
        refine wp_skip ?_
        refine hK16 _ _ ?_
        replace H := H.keep [1, 3, 5, 7] rfl
        refine seq_list (fun K18 hK18 => ?_)
        refine list_does H rfl (by first | exact does_loadBox agg_23 sz_23 rfl S (i := 0) rfl rfl | exact does_loadBox agg_23 sz_23 rfl S (i := 1) rfl rfl | exact does_loadBox agg_23 sz_23 rfl S (i := 2) rfl rfl) ?_; clear H a; intro a H
        refine list_does H rfl (does_move rfl) ?_; clear H a; intro a H
        refine list_call H rfl rfl Try.func25 rfl rfl (ret_imp (chain_Links links pitch limit l A2 c2 _ (ownM.inS S (i := 0) rfl) hn) (fun _ _ h => lnk_ok hW h)) ?_; clear H a
        rintro _ _ a ⟨Als, cls, rfl, S2⟩ H
        replace S := S.call S2; clear S2
        refine list_does H rfl (does_move rfl) ?_; clear H a; intro a H
        refine list_does H rfl (does_extract rfl rfl) ?_; clear H a; intro a H
        refine list_does H rfl (does_extract rfl rfl) ?_; clear H a; intro a H
        refine list_does H rfl (does_assign rfl) ?_; clear H a; intro a H
        refine list_does H rfl (does_assign rfl) ?_; clear H a; intro a H
        refine hK18 _ _ ?_
        clear hK18 K18
        replace H := H.keep [1, 3, 5, 7, 8, 9] rfl
        refine seq_list (fun K19 hK19 => ?_)
        refine list_does H rfl (by first | exact does_loadBox agg_23 sz_23 rfl S (i := 0) rfl rfl | exact does_loadBox agg_23 sz_23 rfl S (i := 1) rfl rfl | exact does_loadBox agg_23 sz_23 rfl S (i := 2) rfl rfl | exact does_loadBox agg_23 sz_23 rfl S (i := 3) rfl rfl) ?_; clear H a; intro a H
        refine list_does H rfl (does_move rfl) ?_; clear H a; intro a H
        refine list_call H rfl rfl Try.func26 rfl rfl (ret_imp (ref_Links links pitch limit l A cp _ (hl.now S) hn) (fun _ _ h => lnk_ok hW h)) ?_; clear H a
        rintro _ _ a ⟨Ars, crs, rfl, S2⟩ H
        replace S := S.call S2; clear S2
        refine list_does H rfl (does_move rfl) ?_; clear H a; intro a H
        refine list_does H rfl (does_extract rfl rfl) ?_; clear H a; intro a H
        refine list_does H rfl (does_extract rfl rfl) ?_; clear H a; intro a H
        refine list_does H rfl (does_assign rfl) ?_; clear H a; intro a H
        refine list_does H rfl (does_assign rfl) ?_; clear H a; intro a H
        refine hK19 _ _ ?_
        clear hK19 K19
        refine wp_seq_k (fun K20 hK20 => ?_)
        replace H := H.keep [1, 3, 5, 7, 8, 9, 10, 11] rfl
        refine seq_list (fun K21 hK21 => ?_)
        refine list_does H rfl (does_move rfl) ?_; clear H a; intro a H
        refine list_does H rfl (does_move rfl) ?_; clear H a; intro a H
        refine list_does H rfl (does_neq_same rfl rfl rfl) ?_; clear H a; intro a H
        refine list_does H rfl (does_move rfl) ?_; clear H a; intro a H
        refine list_yes H rfl rfl ?_
        refine list_does H rfl (does_move rfl) ?_; clear H a; intro a H
        refine list_yes H rfl rfl ?_
        refine list_does H rfl (does_move rfl) ?_; clear H a; intro a H
        refine list_yes H rfl rfl ?_
        refine list_call H rfl rfl Try.func27 rfl rfl (ret_imp (law_sameSpans Als Ars _ _ cls crs _ _ _ _ _ (ownM.inS S (i := 1) rfl) (ownM.inS S (i := 0) rfl) hlk hlk) (fun _ _ h => (⟨h.1.trans (congrArg Value.bool (sameSp_self _ _ _ _ _ (fun _ _ => ⟨rfl, rfl⟩))), h.2⟩ : _ ∧ _))) ?_; clear H a
        rintro _ _ a ⟨rfl, S2⟩ H
        replace S := S.call S2; clear S2
        refine list_yes H rfl rfl ?_
        refine list_does H rfl (does_not rfl) ?_; clear H a; intro a H
        refine list_does H rfl (by first | exact does_or rfl rfl rfl | exact does_pick rfl rfl rfl) ?_; clear H a; intro a H
        refine hK21 _ _ ?_
        clear hK21 K21
        refine cond_ H rfl (fun hc5 => ?_) (fun hc5 => ?_)
        · skip
          cases hc5
        · skip
          refine wp_skip ?_
          refine hK20 _ _ ?_
          replace H := H.keep [1, 3, 5, 7] rfl
          refine seq_list (fun K22 hK22 => ?_)
          refine list_does H rfl (by first | exact does_loadBox agg_23 sz_23 rfl S (i := 0) rfl rfl | exact does_loadBox agg_23 sz_23 rfl S (i := 1) rfl rfl | exact does_loadBox agg_23 sz_23 rfl S (i := 2) rfl rfl | exact does_loadBox agg_23 sz_23 rfl S (i := 3) rfl rfl | exact does_loadBox agg_23 sz_23 rfl S (i := 4) rfl rfl) ?_; clear H a; intro a H
          refine list_does H rfl (does_move rfl) ?_; clear H a; intro a H
          refine list_does H rfl (by first | exact does_field_pt fo_26_0 rfl | exact does_field fo_26_0 rfl) ?_; clear H a; intro a H
          refine list_does H rfl (does_load one_3 rfl (by first | exact boxM.rd S (i := 0) rfl rfl | exact boxM.rd S (i := 1) rfl rfl | exact boxM.rd S (i := 2) rfl rfl | exact boxM.rd S (i := 3) rfl rfl | exact boxM.rd S (i := 4) rfl rfl)) ?_; clear H a; intro a H
          refine list_does H rfl (by first | exact does_field_pt fo_26_1 rfl | exact does_field fo_26_1 rfl) ?_; clear H a; intro a H
          refine list_does H rfl (does_load one_3 rfl (by first | exact boxM.rd S (i := 0) rfl rfl | exact boxM.rd S (i := 1) rfl rfl | exact boxM.rd S (i := 2) rfl rfl | exact boxM.rd S (i := 3) rfl rfl | exact boxM.rd S (i := 4) rfl rfl)) ?_; clear H a; intro a H
          refine list_call H rfl rfl Try.func28 rfl rfl (chain_Run links pitch limit l A2 c2 sf st _ (ownM.inS S (i := 2) rfl) hn) ?_; clear H a
          rintro _ _ a ⟨rfl, S2⟩ H
          replace S := S.call S2; clear S2
          refine list_does H rfl (does_move rfl) ?_; clear H a; intro a H
          refine list_does H rfl (does_extract rfl rfl) ?_; clear H a; intro a H
          refine list_does H rfl (does_extract rfl rfl) ?_; clear H a; intro a H
          refine list_alloc H rfl S ze_42 ?_; clear H a S; intro b12 _ a hb12 hbw12 S H
          first | (refine list_store H S (i := 0) rfl rfl rfl rfl sz_42 rfl rfl ?_) | (refine list_store H S (i := 1) rfl rfl rfl rfl sz_42 rfl rfl ?_) | (refine list_store H S (i := 2) rfl rfl rfl rfl sz_42 rfl rfl ?_) | (refine list_store H S (i := 3) rfl rfl rfl rfl sz_42 rfl rfl ?_) | (refine list_store H S (i := 4) rfl rfl rfl rfl sz_42 rfl rfl ?_) | (refine list_store H S (i := 5) rfl rfl rfl rfl sz_42 rfl rfl ?_) | (refine list_store_own H S (i := 0) rfl rfl rfl (by omega) (by omega) sz_42 rfl ?_) | (refine list_store_own H S (i := 1) rfl rfl rfl (by omega) (by omega) sz_42 rfl ?_) | (refine list_store_own H S (i := 2) rfl rfl rfl (by omega) (by omega) sz_42 rfl ?_) | (refine list_store_own H S (i := 3) rfl rfl rfl (by omega) (by omega) sz_42 rfl ?_) | (refine list_store_own H S (i := 4) rfl rfl rfl (by omega) (by omega) sz_42 rfl ?_) | (refine list_store_own H S (i := 5) rfl rfl rfl (by omega) (by omega) sz_42 rfl ?_)
          clear H a S; intro _ a S H
          refine list_does H rfl (does_assign rfl) ?_; clear H a; intro a H
          refine hK22 _ _ ?_
          clear hK22 K22
          replace H := H.keep [1, 3, 5, 9, 12] rfl
          refine seq_list (fun K23 hK23 => ?_)
          refine list_does H rfl (by first | exact does_loadBox agg_23 sz_23 rfl S (i := 0) rfl rfl | exact does_loadBox agg_23 sz_23 rfl S (i := 1) rfl rfl | exact does_loadBox agg_23 sz_23 rfl S (i := 2) rfl rfl | exact does_loadBox agg_23 sz_23 rfl S (i := 3) rfl rfl | exact does_loadBox agg_23 sz_23 rfl S (i := 4) rfl rfl | exact does_loadBox agg_23 sz_23 rfl S (i := 5) rfl rfl) ?_; clear H a; intro a H
          refine list_does H rfl (does_move rfl) ?_; clear H a; intro a H
          refine list_does H rfl (by first | exact does_field_pt fo_26_0 rfl | exact does_field fo_26_0 rfl) ?_; clear H a; intro a H
          refine list_does H rfl (does_load one_3 rfl (by first | exact boxM.rd S (i := 0) rfl rfl | exact boxM.rd S (i := 1) rfl rfl | exact boxM.rd S (i := 2) rfl rfl | exact boxM.rd S (i := 3) rfl rfl | exact boxM.rd S (i := 4) rfl rfl | exact boxM.rd S (i := 5) rfl rfl)) ?_; clear H a; intro a H
          refine list_does H rfl (by first | exact does_field_pt fo_26_1 rfl | exact does_field fo_26_1 rfl) ?_; clear H a; intro a H
          refine list_does H rfl (does_load one_3 rfl (by first | exact boxM.rd S (i := 0) rfl rfl | exact boxM.rd S (i := 1) rfl rfl | exact boxM.rd S (i := 2) rfl rfl | exact boxM.rd S (i := 3) rfl rfl | exact boxM.rd S (i := 4) rfl rfl | exact boxM.rd S (i := 5) rfl rfl)) ?_; clear H a; intro a H
          refine list_call H rfl rfl Try.func29 rfl rfl (ref_Run links pitch limit l A cp sf st _ (hl.now S) hn) ?_; clear H a
          rintro _ _ a ⟨rfl, S2⟩ H
          replace S := S.call S2; clear S2
          refine list_does H rfl (does_move rfl) ?_; clear H a; intro a H
          refine list_does H rfl (does_extract rfl rfl) ?_; clear H a; intro a H
          refine list_does H rfl (does_extract rfl rfl) ?_; clear H a; intro a H
          refine list_alloc H rfl S ze_42 ?_; clear H a S; intro b13 _ a hb13 hbw13 S H
          first | (refine list_store H S (i := 0) rfl rfl rfl rfl sz_42 rfl rfl ?_) | (refine list_store H S (i := 1) rfl rfl rfl rfl sz_42 rfl rfl ?_) | (refine list_store H S (i := 2) rfl rfl rfl rfl sz_42 rfl rfl ?_) | (refine list_store H S (i := 3) rfl rfl rfl rfl sz_42 rfl rfl ?_) | (refine list_store H S (i := 4) rfl rfl rfl rfl sz_42 rfl rfl ?_) | (refine list_store H S (i := 5) rfl rfl rfl rfl sz_42 rfl rfl ?_) | (refine list_store H S (i := 6) rfl rfl rfl rfl sz_42 rfl rfl ?_) | (refine list_store_own H S (i := 0) rfl rfl rfl (by omega) (by omega) sz_42 rfl ?_) | (refine list_store_own H S (i := 1) rfl rfl rfl (by omega) (by omega) sz_42 rfl ?_) | (refine list_store_own H S (i := 2) rfl rfl rfl (by omega) (by omega) sz_42 rfl ?_) | (refine list_store_own H S (i := 3) rfl rfl rfl (by omega) (by omega) sz_42 rfl ?_) | (refine list_store_own H S (i := 4) rfl rfl rfl (by omega) (by omega) sz_42 rfl ?_) | (refine list_store_own H S (i := 5) rfl rfl rfl (by omega) (by omega) sz_42 rfl ?_) | (refine list_store_own H S (i := 6) rfl rfl rfl (by omega) (by omega) sz_42 rfl ?_)
          clear H a S; intro _ a S H
          refine list_does H rfl (does_assign rfl) ?_; clear H a; intro a H
          refine hK23 _ _ ?_
          clear hK23 K23
          replace H := H.keep [9, 11, 12, 13] rfl
          refine seq_list (fun K24 hK24 => ?_)
          refine list_does H rfl (by first | exact does_loadBox agg_42 sz_42 rfl S (i := 0) rfl rfl | exact does_loadBox agg_42 sz_42 rfl S (i := 1) rfl rfl | exact does_loadBox agg_42 sz_42 rfl S (i := 2) rfl rfl | exact does_loadBox agg_42 sz_42 rfl S (i := 3) rfl rfl | exact does_loadBox agg_42 sz_42 rfl S (i := 4) rfl rfl | exact does_loadBox agg_42 sz_42 rfl S (i := 5) rfl rfl | exact does_loadBox agg_42 sz_42 rfl S (i := 6) rfl rfl) ?_; clear H a; intro a H
          refine list_does H rfl (by first | exact does_loadBox agg_42 sz_42 rfl S (i := 0) rfl rfl | exact does_loadBox agg_42 sz_42 rfl S (i := 1) rfl rfl | exact does_loadBox agg_42 sz_42 rfl S (i := 2) rfl rfl | exact does_loadBox agg_42 sz_42 rfl S (i := 3) rfl rfl | exact does_loadBox agg_42 sz_42 rfl S (i := 4) rfl rfl | exact does_loadBox agg_42 sz_42 rfl S (i := 5) rfl rfl | exact does_loadBox agg_42 sz_42 rfl S (i := 6) rfl rfl) ?_; clear H a; intro a H
          refine list_does H rfl (does_eql_span_same rfl rfl rfl rfl) ?_; clear H a; intro a H
          refine list_does H rfl (does_move rfl) ?_; clear H a; intro a H
          refine list_yes H rfl rfl ?_
          refine list_does H rfl (does_move rfl) ?_; clear H a; intro a H
          refine list_yes H rfl rfl ?_
          refine list_does H rfl (does_move rfl) ?_; clear H a; intro a H
          refine list_yes H rfl rfl ?_
          refine list_does H rfl (does_eql_same rfl rfl rfl) ?_; clear H a; intro a H
          refine list_does H rfl (by first | exact does_and rfl rfl rfl | exact does_pick rfl rfl rfl) ?_; clear H a; intro a H
          refine list_does H rfl (does_move rfl) ?_; clear H a; intro a H
          refine list_yes H rfl rfl ?_
          refine list_call H rfl rfl Try.func18 rfl rfl (law_works _) ?_; clear H a
          rintro _ _ a ⟨rfl, S2⟩ H
          replace S := S.call S2; clear S2
          refine list_does H rfl (by first | exact does_and rfl rfl rfl | exact does_pick rfl rfl rfl) ?_; clear H a; intro a H
          refine list_does H rfl (does_assign rfl) ?_; clear H a; intro a H
          refine hK24 _ _ ?_
          clear hK24 K24
          refine wp_ret ?_
          refine ret1 (fn := Try.f4) rfl H rfl ?_
          exact ⟨rfl, (S.sel [] rfl rfl)⟩

set_option maxRecDepth 100000 in
set_option maxHeartbeats 1000000 in
theorem law_ChainLongest (links pitch limit : Int) (l : List Gauge) (A : Option Addr) (cp : Nat) (many : Int) (w : World) (hl : InS w noF 4 A l.length (gcell l)) (hn : l.length ≤ 9223372036854775807) :
    Calls Try.prog 6 [.agg [.int .i64 links, .int .i64 pitch, .int .i64 limit].toArray, .slice A l.length cp, .int .i64 many].toArray w (Ret (fun v w' => v = .bool true ∧ St w noF [] w')) := by
  refine enter Try.func6 rfl Try.ntmps6 rfl (fun a H => ?_)
  have S := St.start w
  refine seq_list (fun K1 hK1 => ?_)
  refine list_box H rfl S rfl rfl ?_; clear H a S; intro b3 _ a hb3 hbw3 S H
  refine list_does H rfl (does_assign rfl) ?_; clear H a; intro a H
  refine hK1 _ _ ?_
  clear hK1 K1
  refine wp_seq_k (fun K2 hK2 => ?_)
  replace H := H.keep [1, 2, 3] rfl
  refine seq_still (fun K3 hK3 => ?_)
  refine still_does H rfl (does_move rfl) ?_; clear H a; intro a H
  refine still_call H rfl rfl Try.func17 rfl rfl (law_Far A l.length cp _) ?_; clear H a; intro a H
  refine wpStill_nil (hK3 _ ?_)
  clear hK3 K3
  refine cond_ H rfl (fun hc1 => ?_) (fun hc1 => ?_)
  · try simp only [Bool.or_eq_true, Bool.and_eq_true, Bool.not_eq_true', Bool.or_eq_false_iff, Bool.and_eq_false_iff, Bool.not_eq_false', decide_eq_true_eq, decide_eq_false_iff_not, Int.not_lt, Int.not_le] at hc1
    replace H := H.keep [] rfl
    refine seq_list (fun K4 hK4 => ?_)
    refine list_call H rfl rfl Try.func18 rfl rfl (law_works _) ?_; clear H a
    rintro _ _ a ⟨rfl, S2⟩ H
    replace S := S.call S2; clear S2
    refine list_does H rfl (does_assign rfl) ?_; clear H a; intro a H
    refine hK4 _ _ ?_
    clear hK4 K4
    refine wp_ret ?_
    refine ret1 (fn := Try.f6) rfl H rfl ?_
    exact ⟨rfl, (S.sel [] rfl rfl)⟩
  · try simp only [Bool.or_eq_true, Bool.and_eq_true, Bool.not_eq_true', Bool.or_eq_false_iff, Bool.and_eq_false_iff, Bool.not_eq_false', decide_eq_true_eq, decide_eq_false_iff_not, Int.not_lt, Int.not_le] at hc1
    refine wp_skip ?_
    refine hK2 _ _ ?_
    replace H := H.keep [1, 2, 3] rfl
    replace S := S.drew
    refine seq_wq [(0, true), (1, true), (3, true), (2, false), (4, false), (5, true), (6, true), (7, true), (8, true), (9, true), (10, true), (11, true)] (by kernel_rfl) (by kernel_rfl) (S.sel [0] rfl rfl) (fun K5 hK5 => ?_)
    refine wq_does H rfl rfl (fun _ S => by first | exact does_loadBox agg_23 sz_23 rfl S (i := 0) rfl rfl) ?_; clear H a; intro a H
    refine wq_does H rfl rfl (fun _ S => does_move rfl) ?_; clear H a; intro a H
    refine wq_does H rfl rfl (fun _ S => does_move rfl) ?_; clear H a; intro a H
    refine wq_eff rfl ?_
    refine list_call H rfl rfl Try.func20 rfl rfl (ref_CopyGauges l A cp _ (hl.now S) (by omega)) ?_; clear H a
    rintro _ _ a ⟨A2, c2, rfl, S2⟩ H
    replace S := S.call S2; clear S2
    refine wpList_nil (And.intro (S.sel [1] rfl rfl) ?_)
    refine wq_eff rfl ?_
    refine list_call H rfl rfl Try.func30 rfl rfl (chain_Longest links pitch limit l A2 c2 many _ (ownM.inS S (i := 0) rfl) hn) ?_; clear H a
    rintro _ _ a ⟨rfl, S2⟩ H
    replace S := S.call S2; clear S2
    refine wpList_nil (And.intro (S.sel [1] rfl rfl) ?_)
    refine wq_does H rfl rfl (fun _ S => does_move rfl) ?_; clear H a; intro a H
    refine wq_does H rfl rfl (fun _ S => does_extract rfl rfl) ?_; clear H a; intro a H
    refine wq_does H rfl rfl (fun _ S => does_extract rfl rfl) ?_; clear H a; intro a H
    refine wq_does H rfl rfl (fun _ S => does_extract rfl rfl) ?_; clear H a; intro a H
    refine wq_does H rfl rfl (fun _ S => does_assign rfl) ?_; clear H a; intro a H
    refine wq_does H rfl rfl (fun _ S => does_assign rfl) ?_; clear H a; intro a H
    refine wq_does H rfl rfl (fun _ S => does_assign rfl) ?_; clear H a; intro a H
    refine wq_nil ?_
    refine hK5 _ _ ?_
    clear hK5 K5
    replace H := H.keep [1, 2, 3, 7, 8, 9] rfl
    refine seq_list (fun K6 hK6 => ?_)
    refine list_does H rfl (by first | exact does_loadBox agg_23 sz_23 rfl S (i := 0) rfl rfl | exact does_loadBox agg_23 sz_23 rfl S (i := 1) rfl rfl) ?_; clear H a; intro a H
    refine list_does H rfl (does_move rfl) ?_; clear H a; intro a H
    refine list_does H rfl (does_move rfl) ?_; clear H a; intro a H
    refine list_call H rfl rfl Try.func31 rfl rfl (ref_Longest links pitch limit l A cp many _ (hl.now S) hn) ?_; clear H a
    rintro _ _ a ⟨rfl, S2⟩ H
    replace S := S.call S2; clear S2
    refine list_does H rfl (does_move rfl) ?_; clear H a; intro a H
    refine list_does H rfl (does_extract rfl rfl) ?_; clear H a; intro a H
    refine list_does H rfl (does_extract rfl rfl) ?_; clear H a; intro a H
    refine list_does H rfl (does_extract rfl rfl) ?_; clear H a; intro a H
    refine list_does H rfl (does_assign rfl) ?_; clear H a; intro a H
    refine list_does H rfl (does_assign rfl) ?_; clear H a; intro a H
    refine list_does H rfl (does_assign rfl) ?_; clear H a; intro a H
    refine hK6 _ _ ?_
    clear hK6 K6
    replace H := H.keep [7, 8, 9, 10, 11, 12] rfl
    refine seq_list (fun K7 hK7 => ?_)
    refine list_does H rfl (does_move rfl) ?_; clear H a; intro a H
    refine list_does H rfl (does_move rfl) ?_; clear H a; intro a H
    refine list_does H rfl (does_eql_same rfl rfl rfl) ?_; clear H a; intro a H
    refine list_does H rfl (does_move rfl) ?_; clear H a; intro a H
    refine list_yes H rfl rfl ?_
    refine list_does H rfl (does_move rfl) ?_; clear H a; intro a H
    refine list_yes H rfl rfl ?_
    refine list_does H rfl (does_move rfl) ?_; clear H a; intro a H
    refine list_yes H rfl rfl ?_
    refine list_does H rfl (does_eql_same rfl rfl rfl) ?_; clear H a; intro a H
    refine list_does H rfl (by first | exact does_and rfl rfl rfl | exact does_pick rfl rfl rfl) ?_; clear H a; intro a H
    refine list_does H rfl (does_move rfl) ?_; clear H a; intro a H
    refine list_yes H rfl rfl ?_
    refine list_does H rfl (does_move rfl) ?_; clear H a; intro a H
    refine list_yes H rfl rfl ?_
    refine list_does H rfl (does_move rfl) ?_; clear H a; intro a H
    refine list_yes H rfl rfl ?_
    refine list_does H rfl (does_eql_same rfl rfl rfl) ?_; clear H a; intro a H
    refine list_does H rfl (by first | exact does_and rfl rfl rfl | exact does_pick rfl rfl rfl) ?_; clear H a; intro a H
    refine list_does H rfl (does_move rfl) ?_; clear H a; intro a H
    refine list_yes H rfl rfl ?_
    refine list_call H rfl rfl Try.func18 rfl rfl (law_works _) ?_; clear H a
    rintro _ _ a ⟨rfl, S2⟩ H
    replace S := S.call S2; clear S2
    refine list_does H rfl (by first | exact does_and rfl rfl rfl | exact does_pick rfl rfl rfl) ?_; clear H a; intro a H
    refine list_does H rfl (does_assign rfl) ?_; clear H a; intro a H
    refine hK7 _ _ ?_
    clear hK7 K7
    refine wp_ret ?_
    refine ret1 (fn := Try.f6) rfl H rfl ?_
    exact ⟨rfl, (S.sel [] rfl rfl)⟩

end Go.Proofs.Ytlejjfhgfajoiaa
