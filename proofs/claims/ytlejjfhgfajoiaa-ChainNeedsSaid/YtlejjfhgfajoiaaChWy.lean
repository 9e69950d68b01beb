/- ChWy. Printed by gen.py. -/
import Derived.Test.YtlejjfhgfajoiaaChBs
import Derived.Test.YtlejjfhgfajoiaaSub
import Derived.Test.YtlejjfhgfajoiaaChF
namespace Go.Proofs.Ytlejjfhgfajoiaa
open Go.RowKit
set_option linter.unusedVariables false
set_option linter.unusedSimpArgs false


theorem St.cell {w w' : World} {R : List Mem} (S : St w noF R w') {a : Addr} {v : Value} (h : w.cell? a = some v) : w'.cell? a = some v := by
  have hlt : a.block < w.heap.size := by
    have hc := h
    unfold World.cell? at hc
    split at hc
    · rename_i c t fr hb; exact lt_of_heap hb
    · cases hc
  rw [← h]
  exact World.cell?_of_block (w := w) (S.ro _ hlt (fun h => h))
theorem Keeps.st {w w' : World} (K : Keeps w w' noF) : St w noF [] w' :=
  ⟨K.os, K.tape, K.out, K.size, fun k hk _ => K.kept k hk (fun h => h), fun _ h => by simp at h, fun _ h => by simp at h, fun i j m m' h => by simp at h⟩
/-- A list of numbers, as cells. -/
def ncl (l : List Nat) (k _j : Nat) : Value := .int .i64 ((l.getD k 0 : Nat) : Int)
theorem ncl_app {ks : List Nat} {i : Nat} : ∀ q j, q < ks.length + 1 → j < 1 → capp ks.length (ncl ks) (fun k' j => ([[.int .i64 (i : Int)]].getD k' []).getD j undef) q j = ncl (ks ++ [i]) q j := by
  intro q j hq hj
  have hj0 : j = 0 := by omega
  subst hj0
  unfold capp ncl
  by_cases h1 : q < ks.length
  · rw [if_pos h1, List.getD_eq_getElem?_getD, List.getD_eq_getElem?_getD, List.getElem?_append_left h1]
  · rw [if_neg h1]
    have e : q = ks.length := by omega
    subst e
    rw [Nat.sub_self, List.getD_eq_getElem?_getD (l := ks ++ [i]), List.getElem?_append_right (Nat.le_refl _), Nat.sub_self]
    rfl
theorem keep_off {suf : (Nat → Bool) → Bool} {i k : Nat} (h : k ≠ i) : keepP i (spK suf i) k = keepP (i + 1) (spK suf i) k := by
  unfold keepP
  congr 1
  exact decide_eq_decide.2 ⟨fun h => by omega, fun h => by omega⟩
theorem keep_at {suf : (Nat → Bool) → Bool} {i : Nat} : keepP (i + 1) (spK suf i) i = false := by
  unfold keepP
  rw [decide_eq_false (fun h => by have := spK_lt i i h; omega), decide_eq_false (by omega)]
  rfl
theorem keep_in {ks : List Nat} {i k : Nat} : (if k = i then true else keepP (i + 1) ks k) = keepP (i + 1) (ks ++ [i]) k := by
  unfold keepP
  by_cases h : k = i
  · subst h; rw [if_pos rfl]; simp
  · rw [if_neg h]; simp [h]
theorem keep_zero {suf : (Nat → Bool) → Bool} (k : Nat) : keepP 0 (spK suf 0) k = true := by unfold keepP; simp
theorem spK_yes {suf : (Nat → Bool) → Bool} {i : Nat} (h : suf (keepP (i + 1) (spK suf i)) = true) : spK suf (i + 1) = spK suf i := by rw [spK, if_pos h]
theorem spK_no {suf : (Nat → Bool) → Bool} {i : Nat} (h : suf (keepP (i + 1) (spK suf i)) = false) : spK suf (i + 1) = spK suf i ++ [i] := by rw [spK, if_neg (by rw [h]; simp)]
theorem spK_len {suf : (Nat → Bool) → Bool} : ∀ i, (spK suf i).length ≤ i := by
  intro i
  induction i with
  | zero => exact Nat.le_refl _
  | succ i ih =>
    rw [spK]
    split
    · omega
    · rw [List.length_append]; simp only [List.length_cons, List.length_nil]; omega


set_option maxRecDepth 100000 in
set_option maxHeartbeats 1000000 in
theorem spare_1 (k n lc : Nat) (b : Nat) (LA : Option Addr) (lf : Nat → Bool) (w : World) (hb : w.cell? ⟨b, 0, none⟩ = some (.slice LA n lc)) (hA : InS w noF 1 LA n (fun k _ => .bool (lf k))) (hk : k < n) :
    Calls Try.prog 89 [.int .i64 (k : Int), .pointer (some ⟨b, 0, none⟩)].toArray w (Ret (fun v w' => v = .bool (lf k) ∧ w' = w)) := by
  refine enter Try.func89 rfl Try.ntmps89 rfl (fun a H => ?_)
  have S := St.start w
  refine seq_still (fun K1 hK1 => ?_)
  refine still_does H rfl (does_assign rfl) ?_; clear H a; intro a H
  refine wpStill_nil (hK1 _ ?_)
  clear hK1 K1
  replace H := H.keep [0, 1] rfl
  refine seq_still (fun K2 hK2 => ?_)
  refine still_does H rfl (does_load one_128 rfl (by first | exact hb | exact hA.rd S (by omega) (by omega))) ?_; clear H a; intro a H
  refine still_does H rfl (does_move rfl) ?_; clear H a; intro a H
  refine still_does H rfl (by first | exact does_indexN sl_128 sz_4 rfl rfl (by first | exact hA.adr (by omega)) (by first | omega | omega) | exact does_index sl_128 sz_4 rfl rfl (by first | exact hA.adr (by omega)) (by omega) (by first | omega | omega)) ?_; clear H a; intro a H
  refine still_does H rfl (does_load one_4 rfl (by first | exact hb | exact hA.rd S (by omega) (by omega))) ?_; clear H a; intro a H
  refine still_does H rfl (does_assign rfl) ?_; clear H a; intro a H
  refine wpStill_nil (hK2 _ ?_)
  clear hK2 K2
  refine wp_ret ?_
  refine ret1 (fn := Try.f89) rfl H rfl ?_
  exact ⟨rfl, rfl⟩

set_option maxRecDepth 100000 in
set_option maxHeartbeats 1000000 in
theorem chain_spare (l : List Gauge) (A : Option Addr) (cp : Nat) (fs : Nat) (fns : Func) (capS : List Value) (suf : (Nat → Bool) → Bool) (w : World) (hl : InS w noF 4 A l.length (gcell l)) (hlen : l.length ≤ 40) (hf : Try.prog.funcs[fs]? = some fns) (hfb : fns.body.isNone = false) (hfn : (fns.name == "runtime.NumGoroutine") = false) (hsuf : ∀ (p : Nat → Bool) (f : Nat) (fn : Func) (caps : List Value) (w1 : World), Keeps w w1 noF → Try.prog.funcs[f]? = some fn → fn.body.isNone = false → (fn.name == "runtime.NumGoroutine") = false → (∀ (k : Nat) (w' : World), k < l.length → Keeps w1 w' noF → Calls Try.prog f (.int .i64 (k : Int) :: caps).toArray w' (Ret fun v w'' => v = .bool (p k) ∧ w'' = w')) → Calls Try.prog fs (.func (.func f) [].toArray caps.toArray :: capS).toArray w1 (Ret fun v w'' => v = .bool (suf p) ∧ St w1 noF [] w'')) :
    Calls Try.prog 78 [.slice A l.length cp, .func (.func fs) [].toArray capS.toArray].toArray w (Ret (fun v w' => ∃ A' c', v = .slice A' (spK suf l.length).length c' ∧ St w noF [ownM 3 1 A' (spK suf l.length).length c' (ncl (spK suf l.length))] w')) := by
  have hmx : maxLen = 9223372036854775807 := rfl
  refine enter Try.func78 rfl Try.ntmps78 rfl (fun a H => ?_)
  have S := St.start w
  refine seq_still (fun K1 hK1 => ?_)
  refine still_does H rfl (does_assign rfl) ?_; clear H a; intro a H
  refine wpStill_nil (hK1 _ ?_)
  clear hK1 K1
  replace H := H.keep [0, 1] rfl
  refine seq_list (fun K2 hK2 => ?_)
  refine list_does H rfl (does_move rfl) ?_; clear H a; intro a H
  refine list_does H rfl (does_len sl_24 rfl) ?_; clear H a; intro a H
  refine list_make (n := l.length) H rfl S sl_128 sz_4 ze_4 by_4 rfl (by decide) rfl rfl (by omega) (by omega) ?_; clear H a S; intro A1 _ a hA1 S H
  generalize hLA : A1 = LA at S H
  replace S := S.recell (i := 0) rfl (cell' := fun k _ => .bool (decide (k < 0))) (fun k j _ hj => by rw [show j = 0 from by omega]; exact congrArg Value.bool (decide_eq_false (Nat.not_lt_zero k)).symm)
  refine list_alloc H rfl S ze_128 ?_; clear H a S; intro b5 _ a hb5 hbw5 S H
  first | (refine list_store H S (i := 0) rfl rfl rfl rfl sz_128 rfl rfl ?_) | (refine list_store H S (i := 1) rfl rfl rfl rfl sz_128 rfl rfl ?_) | (refine list_store_own H S (i := 0) rfl rfl rfl (by omega) (by omega) sz_128 rfl ?_) | (refine list_store_own H S (i := 1) rfl rfl rfl (by omega) (by omega) sz_128 rfl ?_)
  clear H a S; intro _ a S H
  refine hK2 _ _ ?_
  clear hK2 K2
  refine wp_seq_k (fun K3 hK3 => ?_)
  replace H := H.keep [0, 1, 5] rfl
  refine seq_still (fun K4 hK4 => ?_)
  refine still_does H rfl (does_load one_128 rfl (by first | exact boxM.rd S (i := 0) rfl rfl | exact boxM.rd S (i := 1) rfl rfl)) ?_; clear H a; intro a H
  refine still_does H rfl (does_len sl_128 rfl) ?_; clear H a; intro a H
  refine still_does H rfl (does_move rfl) ?_; clear H a; intro a H
  refine wpStill_nil (hK4 _ ?_)
  clear hK4 K4
  refine wp_block ?_
  refine loop_st (X := Nat) (R0 := _) [0, 1, 5, 14] H rfl (fun k => [(15, .int .i64 (k : Int))]) (fun k => [ownM 4 1 LA l.length l.length (fun q _ => .bool (decide (q < k)))]) (fun g k => k ≤ l.length ∧ g + k = l.length) (l.length) 0 ?_ (S.sel [1, 0] rfl rfl) (H.keep [15, 0, 1, 5, 14] rfl) ?_
  · exact ⟨by omega, by omega⟩
  · intro g1 x1 a w1 hp S H K5 hK5
    obtain ⟨k, rfl⟩ : ∃ y, y = x1 := ⟨_, rfl⟩
    skip
    replace H := H.keep [0, 1, 5, 14, 15] rfl
    refine seq_still (fun K6 hK6 => ?_)
    refine still_does H rfl (does_lss rfl rfl) ?_; clear H a; intro a H
    refine wpStill_nil (hK6 _ ?_)
    clear hK6 K6
    refine wp_seq_k (fun K7 hK7 => ?_)
    refine cond_ H rfl (fun hc1 => ?_) (fun hc1 => ?_)
    · try simp only [Bool.or_eq_true, Bool.and_eq_true, Bool.not_eq_true', Bool.or_eq_false_iff, Bool.and_eq_false_iff, Bool.not_eq_false', decide_eq_true_eq, decide_eq_false_iff_not, Int.not_lt, Int.not_le] at hc1
      refine wp_skip ?_
      refine hK7 _ _ ?_
      refine wp_seq_k (fun K8 hK8 => ?_)
      refine wp_block ?_
      replace H := H.keep [0, 1, 5, 14, 15] rfl
      refine seq_still (fun K9 hK9 => ?_)
      refine still_does H rfl (does_move rfl) ?_; clear H a; intro a H
      refine still_does H rfl (does_assign rfl) ?_; clear H a; intro a H
      refine wpStill_nil (hK9 _ ?_)
      clear hK9 K9
      replace H := H.keep [0, 1, 5, 6, 14, 15] rfl
      refine one_list ?_
      refine list_does H rfl (does_load one_128 rfl (by first | exact boxM.rd S (i := 0) rfl rfl | exact boxM.rd S (i := 1) rfl rfl)) ?_; clear H a; intro a H
      refine list_does H rfl (does_move rfl) ?_; clear H a; intro a H
      refine list_does H rfl (by first | exact does_indexN sl_128 sz_4 rfl rfl (by first | exact ownM.adr S (i := 0) rfl (by omega)) (by first | omega | omega) | exact does_index sl_128 sz_4 rfl rfl (by first | exact ownM.adr S (i := 0) rfl (by omega)) (by omega) (by first | omega | omega)) ?_; clear H a; intro a H
      first | (refine list_store_own H S (i := 0) (kk := k) (j := 0) rfl rfl rfl (by omega) (by omega) sz_4 rfl ?_)
      clear H a S; intro _ a S H
      replace S := S.recell (i := 0) rfl (cell' := fun q _ => .bool (decide (q < k + 1))) (fun q j hq hj => by
        unfold cput; by_cases h : q = k
        · rw [if_pos ⟨h, by omega⟩, decide_eq_true (by omega)]
        · rw [if_neg (fun hh => h hh.1)]; exact congrArg Value.bool (decide_eq_decide.2 ⟨fun _ => by omega, fun _ => by omega⟩))
      refine hK8 _ _ ?_
      replace H := H.keep [0, 1, 5, 14, 15] rfl
      refine one_still ?_
      refine still_does H rfl (does_add rfl rfl (by unfold i64ok; omega)) ?_; clear H a; intro a H
      refine still_does H rfl (does_move rfl) ?_; clear H a; intro a H
      refine wpStill_nil ?_
      exact hK5 (g1 - 1) (k + 1) a _ (by omega) (by omega) (S.sel [0, 1] rfl rfl) (H.keep [15, 0, 1, 5, 14] rfl)
    · try simp only [Bool.or_eq_true, Bool.and_eq_true, Bool.not_eq_true', Bool.or_eq_false_iff, Bool.and_eq_false_iff, Bool.not_eq_false', decide_eq_true_eq, decide_eq_false_iff_not, Int.not_lt, Int.not_le] at hc1
      refine wp_exit ?_
      refine hK3 _ _ ?_
      replace H := H.keep [0, 1, 5] rfl
      refine seq_still (fun K12 hK12 => ?_)
      refine still_does H rfl (does_makeFunc rfl rfl) ?_; clear H a; intro a H
      refine still_does H rfl (does_assign rfl) ?_; clear H a; intro a H
      refine wpStill_nil (hK12 _ ?_)
      clear hK12 K12
      replace H := H.keep [0, 1, 5, 7] rfl
      refine seq_still (fun K13 hK13 => ?_)
      refine still_does H rfl (does_assign rfl) ?_; clear H a; intro a H
      refine wpStill_nil (hK13 _ ?_)
      clear hK13 K13
      refine wp_seq_k (fun K14 hK14 => ?_)
      replace H := H.keep [0, 1, 5, 7, 8] rfl
      refine seq_still (fun K15 hK15 => ?_)
      refine still_does H rfl (does_move rfl) ?_; clear H a; intro a H
      refine still_does H rfl (does_len sl_24 rfl) ?_; clear H a; intro a H
      refine still_does H rfl (does_move rfl) ?_; clear H a; intro a H
      refine wpStill_nil (hK15 _ ?_)
      clear hK15 K15
      refine wp_block ?_
      replace S := S.recell (i := 0) rfl (cell' := fun q _ => .bool (keepP 0 (spK suf 0) q)) (fun q j hq hj => by rw [keep_zero, decide_eq_true (by omega)])
      replace S := S.newNil 3 1 (ncl (spK suf 0))
      refine loop_st (X := Nat × Option Addr × Nat × Nat) (R0 := _) [1, 5, 7, 24] H rfl (fun ⟨i, A', n', c'⟩ => [(8, .slice A' n' c'), (25, .int .i64 (i : Int))]) (fun ⟨i, A', n', c'⟩ => [ownM 4 1 LA l.length l.length (fun k _ => .bool (keepP i (spK suf i) k)), ownM 3 1 A' n' c' (ncl (spK suf i))]) (fun g ⟨i, A', n', c'⟩ => i ≤ l.length ∧ g + i = l.length ∧ n' = (spK suf i).length) (l.length) (0, none, 0, 0) ?_ (S.sel [1, 0, 2] rfl rfl) (H.keep [8, 25, 1, 5, 7, 24] rfl) ?_
      · exact ⟨by omega, by omega, rfl⟩
      · intro g2 x2 a w2 hp S H K16 hK16
        obtain ⟨i, A', n', c'⟩ := x2
        dsimp only at hp S H
        have hn' := hp.2.2
        subst hn'
        replace H := H.keep [1, 5, 7, 8, 24, 25] rfl
        refine seq_still (fun K17 hK17 => ?_)
        refine still_does H rfl (does_lss rfl rfl) ?_; clear H a; intro a H
        refine wpStill_nil (hK17 _ ?_)
        clear hK17 K17
        refine wp_seq_k (fun K18 hK18 => ?_)
        refine cond_ H rfl (fun hc2 => ?_) (fun hc2 => ?_)
        · try simp only [Bool.or_eq_true, Bool.and_eq_true, Bool.not_eq_true', Bool.or_eq_false_iff, Bool.and_eq_false_iff, Bool.not_eq_false', decide_eq_true_eq, decide_eq_false_iff_not, Int.not_lt, Int.not_le] at hc2
          refine wp_skip ?_
          refine hK18 _ _ ?_
          refine wp_seq_k (fun K19 hK19 => ?_)
          refine wp_block ?_
          replace H := H.keep [1, 5, 7, 8, 24, 25] rfl
          refine seq_still (fun K20 hK20 => ?_)
          refine still_does H rfl (does_move rfl) ?_; clear H a; intro a H
          refine still_does H rfl (does_assign rfl) ?_; clear H a; intro a H
          refine wpStill_nil (hK20 _ ?_)
          clear hK20 K20
          replace H := H.keep [1, 5, 7, 8, 9, 24, 25] rfl
          refine seq_list (fun K21 hK21 => ?_)
          refine list_does H rfl (does_load one_128 rfl (by first | exact boxM.rd S (i := 0) rfl rfl | exact boxM.rd S (i := 1) rfl rfl | exact boxM.rd S (i := 2) rfl rfl)) ?_; clear H a; intro a H
          refine list_does H rfl (does_move rfl) ?_; clear H a; intro a H
          refine list_does H rfl (by first | exact does_indexN sl_128 sz_4 rfl rfl (by first | exact ownM.adr S (i := 0) rfl (by omega)) (by first | omega | omega) | exact does_index sl_128 sz_4 rfl rfl (by first | exact ownM.adr S (i := 0) rfl (by omega)) (by omega) (by first | omega | omega)) ?_; clear H a; intro a H
          first | (refine list_store_own H S (i := 0) (kk := i) (j := 0) rfl rfl rfl (by omega) (by omega) sz_4 rfl ?_)
          clear H a S; intro _ a S H
          replace S := S.recell (i := 0) rfl (cell' := fun q _ => .bool (keepP (i + 1) (spK suf i) q)) (fun q j hq hj => by
            unfold cput; by_cases h : q = i
            · subst h; rw [if_pos ⟨rfl, by omega⟩, keep_at]
            · rw [if_neg (fun hh => h hh.1)]; exact congrArg Value.bool (keep_off h))
          refine hK21 _ _ ?_
          clear hK21 K21
          replace H := H.keep [1, 5, 7, 8, 9, 24, 25] rfl
          refine seq_list (fun K22 hK22 => ?_)
          refine list_does H rfl (does_move rfl) ?_; clear H a; intro a H
          refine list_does H rfl (does_move rfl) ?_; clear H a; intro a H
          refine list_callv (fs := []) (cs := capS) (vs := [.func (.func 89) [].toArray [.pointer (some ⟨b5, 0, none⟩)].toArray]) H rfl rfl rfl hf hfb hfn (hsuf (keepP (i + 1) (spK suf i)) 89 _ [.pointer (some ⟨b5, 0, none⟩)] _ S.keeps Try.func89 rfl rfl (fun k w' hk K => spare_1 k l.length l.length b5 LA _ w' (K.st.cell (boxM.rd S (i := 2) rfl rfl)) ((ownM.inS S (i := 0) rfl).now K.st) hk)) ?_; clear H a
          rintro _ _ a ⟨rfl, S2⟩ H
          replace S := S.call S2; clear S2
          refine list_does H rfl (does_not rfl) ?_; clear H a; intro a H
          refine hK22 _ _ ?_
          clear hK22 K22
          refine cond_ H rfl (fun hc3 => ?_) (fun hc3 => ?_)
          · skip
            replace hc3 : suf (keepP (i + 1) (spK suf i)) = false := by simpa using hc3
            have hks := spK_len (suf := suf) i
            replace H := H.keep [1, 5, 7, 8, 9, 24, 25] rfl
            refine seq_list (fun K23 hK23 => ?_)
            refine list_does H rfl (does_load one_128 rfl (by first | exact boxM.rd S (i := 0) rfl rfl | exact boxM.rd S (i := 1) rfl rfl | exact boxM.rd S (i := 2) rfl rfl)) ?_; clear H a; intro a H
            refine list_does H rfl (does_move rfl) ?_; clear H a; intro a H
            refine list_does H rfl (by first | exact does_indexN sl_128 sz_4 rfl rfl (by first | exact ownM.adr S (i := 0) rfl (by omega)) (by first | omega | omega) | exact does_index sl_128 sz_4 rfl rfl (by first | exact ownM.adr S (i := 0) rfl (by omega)) (by omega) (by first | omega | omega)) ?_; clear H a; intro a H
            first | (refine list_store_own H S (i := 0) (kk := i) (j := 0) rfl rfl rfl (by omega) (by omega) sz_4 rfl ?_)
            clear H a S; intro _ a S H
            replace S := S.recell (i := 0) rfl (cell' := fun q _ => .bool (keepP (i + 1) (spK suf i ++ [i]) q)) (fun q j hq hj => by
              rw [← keep_in]; unfold cput; by_cases h : q = i
              · subst h; rw [if_pos ⟨rfl, by omega⟩, if_pos rfl]
              · rw [if_neg (fun hh => h hh.1), if_neg h])
            refine hK23 _ _ ?_
            clear hK23 K23
            replace H := H.keep [1, 5, 7, 8, 9, 24, 25] rfl
            refine one_list ?_
            refine list_does H rfl (does_move rfl) ?_; clear H a; intro a H
            refine list_does H rfl (does_move rfl) ?_; clear H a; intro a H
            refine list_build' H rfl S sl_29 sz_3 ze_3 rfl rfl rfl rfl rfl rfl rfl rfl rfl ?_; clear H a S; intro A2 _ a hA2 S H
            refine list_append H rfl S sl_29 sz_3 ze_3 by_3 rfl rfl (i := 2) rfl rfl rfl (ownM.inS S (i := 0) rfl) (one_vs (one rfl)) (by omega) (by omega) ?_; clear H a S; intro A3 c3 _ a S H
            replace S := S.recell (i := 2) rfl ncl_app
            have e8 : (spK suf i).length + 1 = (spK suf i ++ [i]).length := by simp
            rw [e8] at S H
            refine list_does H rfl (does_assign rfl) ?_; clear H a; intro a H
            refine hK19 _ _ ?_
            replace H := H.keep [1, 5, 7, 8, 24, 25] rfl
            refine one_still ?_
            refine still_does H rfl (does_add rfl rfl (by unfold i64ok; omega)) ?_; clear H a; intro a H
            refine still_does H rfl (does_move rfl) ?_; clear H a; intro a H
            refine wpStill_nil ?_
            have hnx := (by first | exact spK_yes hc3 | exact spK_no hc3 : spK suf (i + 1) = _)
            rw [← hnx] at S H
            exact hK16 (g2 - 1) (i + 1, _, (spK suf (i + 1)).length, _) a _ (by omega) (⟨by omega, by omega, rfl⟩) (S.sel [1, 2, 3] rfl rfl) (H.keep [8, 25, 1, 5, 7, 24] rfl)
          · skip
            replace hc3 : suf (keepP (i + 1) (spK suf i)) = true := by simpa using hc3
            refine wp_skip ?_
            refine hK19 _ _ ?_
            replace H := H.keep [1, 5, 7, 8, 24, 25] rfl
            refine one_still ?_
            refine still_does H rfl (does_add rfl rfl (by unfold i64ok; omega)) ?_; clear H a; intro a H
            refine still_does H rfl (does_move rfl) ?_; clear H a; intro a H
            refine wpStill_nil ?_
            have hnx := (by first | exact spK_yes hc3 | exact spK_no hc3 : spK suf (i + 1) = _)
            rw [← hnx] at S H
            exact hK16 (g2 - 1) (i + 1, _, (spK suf (i + 1)).length, _) a _ (by omega) (⟨by omega, by omega, rfl⟩) (S.sel [0, 1, 2] rfl rfl) (H.keep [8, 25, 1, 5, 7, 24] rfl)
        · try simp only [Bool.or_eq_true, Bool.and_eq_true, Bool.not_eq_true', Bool.or_eq_false_iff, Bool.and_eq_false_iff, Bool.not_eq_false', decide_eq_true_eq, decide_eq_false_iff_not, Int.not_lt, Int.not_le] at hc2
          refine wp_exit ?_
          refine hK14 _ _ ?_
          replace H := H.keep [8] rfl
          refine seq_still (fun K27 hK27 => ?_)
          refine still_does H rfl (does_move rfl) ?_; clear H a; intro a H
          refine still_does H rfl (does_assign rfl) ?_; clear H a; intro a H
          refine wpStill_nil (hK27 _ ?_)
          clear hK27 K27
          refine wp_ret ?_
          refine ret1 (fn := Try.f78) rfl H rfl ?_
          have hi9 : i = l.length := by omega
          subst hi9
          exact ⟨A', c', rfl, (S.sel [1] rfl rfl)⟩

set_option maxRecDepth 100000 in
set_option maxHeartbeats 1000000 in
theorem chain_Conflict_1 (links pitch limit : Int) (l : List Gauge) (A : Option Addr) (cp : Nat) (p : Nat → Bool) (f : Nat) (fn : Func) (caps : List Value) (b2 b3 : Nat) (w : World) (h2 : ∀ (j : Nat) v, [.int .i64 links, .int .i64 pitch, .int .i64 limit][j]? = some v → w.cell? ⟨b2, 0 + j, none⟩ = some v) (h3 : w.cell? ⟨b3, 0, none⟩ = some (.slice A l.length cp)) (hk : checkE (⟨links, pitch, limit⟩ : Chain) l = 0) (hl : InS w noF 4 A l.length (gcell l)) (hf : Try.prog.funcs[f]? = some fn) (hfb : fn.body.isNone = false) (hfn : (fn.name == "runtime.NumGoroutine") = false) (hcall : ∀ (k : Nat) (w' : World), k < l.length → Keeps w w' noF → Calls Try.prog f (.int .i64 (k : Int) :: caps).toArray w' (Ret fun v w'' => v = .bool (p k) ∧ w'' = w')) :
    Calls Try.prog 79 [.func (.func f) [].toArray caps.toArray, .pointer (some ⟨b2, 0, none⟩), .pointer (some ⟨b3, 0, none⟩)].toArray w (Ret (fun v w' => v = .bool (sufP (⟨links, pitch, limit⟩ : Chain) l 0 0 0 true p) ∧ St w noF [] w')) := by
  refine enter Try.func79 rfl Try.ntmps79 rfl (fun a H => ?_)
  have S := St.start w
  refine seq_still (fun K1 hK1 => ?_)
  refine still_does H rfl (does_assign rfl) ?_; clear H a; intro a H
  refine wpStill_nil (hK1 _ ?_)
  clear hK1 K1
  rcases hW : weaveW (⟨links, pitch, limit⟩ : Chain) l p with _ | M
  · skip
    replace H := H.keep [0, 1, 2] rfl
    refine seq_list (fun K2 hK2 => ?_)
    refine list_does H rfl (does_loadAgg (vs := [.int .i64 links, .int .i64 pitch, .int .i64 limit]) agg_23 sz_23 rfl h2) ?_; clear H a; intro a H
    refine list_does H rfl (does_load one_24 rfl h3) ?_; clear H a; intro a H
    refine list_does H rfl (does_move rfl) ?_; clear H a; intro a H
    refine list_call H rfl rfl Try.func80 rfl rfl (ret_imp (chain_weaveI links pitch limit l A cp p f fn caps _ hk (hl.now S) hf hfb hfn hcall) (fun _ _ => woven_none hW)) ?_; clear H a
    rintro _ _ a ⟨rfl, S2⟩ H
    replace S := S.call S2; clear S2
    refine list_does H rfl (does_move rfl) ?_; clear H a; intro a H
    refine list_does H rfl (does_extract rfl rfl) ?_; clear H a; intro a H
    refine list_does H rfl (does_extract rfl rfl) ?_; clear H a; intro a H
    refine list_does H rfl (does_assign rfl) ?_; clear H a; intro a H
    refine list_does H rfl (does_assign rfl) ?_; clear H a; intro a H
    refine hK2 _ _ ?_
    clear hK2 K2
    replace H := H.keep [6] rfl
    refine seq_still (fun K3 hK3 => ?_)
    refine still_does H rfl (does_move rfl) ?_; clear H a; intro a H
    refine still_does H rfl (does_not rfl) ?_; clear H a; intro a H
    refine still_does H rfl (does_assign rfl) ?_; clear H a; intro a H
    refine wpStill_nil (hK3 _ ?_)
    clear hK3 K3
    refine wp_ret ?_
    refine ret1 (fn := Try.f79) rfl H rfl ?_
    refine ⟨?_, (S.sel [] rfl rfl)⟩; unfold sufP; rw [hW]; rfl
  · skip
    replace H := H.keep [0, 1, 2] rfl
    refine seq_list (fun K4 hK4 => ?_)
    refine list_does H rfl (does_loadAgg (vs := [.int .i64 links, .int .i64 pitch, .int .i64 limit]) agg_23 sz_23 rfl h2) ?_; clear H a; intro a H
    refine list_does H rfl (does_load one_24 rfl h3) ?_; clear H a; intro a H
    refine list_does H rfl (does_move rfl) ?_; clear H a; intro a H
    refine list_call H rfl rfl Try.func80 rfl rfl (ret_imp (chain_weaveI links pitch limit l A cp p f fn caps _ hk (hl.now S) hf hfb hfn hcall) (fun _ _ => woven_some hW)) ?_; clear H a
    rintro _ _ a ⟨W, rb, rc, rfl, S2⟩ H
    replace S := S.call S2; clear S2
    refine list_does H rfl (does_move rfl) ?_; clear H a; intro a H
    refine list_does H rfl (does_extract rfl rfl) ?_; clear H a; intro a H
    refine list_does H rfl (does_extract rfl rfl) ?_; clear H a; intro a H
    refine list_does H rfl (does_assign rfl) ?_; clear H a; intro a H
    refine list_does H rfl (does_assign rfl) ?_; clear H a; intro a H
    refine hK4 _ _ ?_
    clear hK4 K4
    replace H := H.keep [6] rfl
    refine seq_still (fun K5 hK5 => ?_)
    refine still_does H rfl (does_move rfl) ?_; clear H a; intro a H
    refine still_does H rfl (does_not rfl) ?_; clear H a; intro a H
    refine still_does H rfl (does_assign rfl) ?_; clear H a; intro a H
    refine wpStill_nil (hK5 _ ?_)
    clear hK5 K5
    refine wp_ret ?_
    refine ret1 (fn := Try.f79) rfl H rfl ?_
    refine ⟨?_, (S.sel [] rfl rfl)⟩; unfold sufP; rw [hW]; rfl

end Go.Proofs.Ytlejjfhgfajoiaa
