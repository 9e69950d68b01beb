/- RfA. Printed by gen.py. -/
import Derived.Test.YtlmddkekeoebcaaRwB
import Derived.Test.YtlmddkekeoebcaaRfc
import Derived.Test.YtlmddkekeoebcaaE1
import Derived.Test.YtlmddkekeoebcaaE2
namespace Go.Proofs.Ytlmddkekeoebcaa
open Go.RowKit
set_option linter.unusedVariables false
set_option linter.unusedSimpArgs false
set_option maxRecDepth 100000
set_option maxHeartbeats 4000000


theorem xr_len {X : Nat → List Nat} {a e : Nat} (q : Nat) : upd (fun i => (X i).length) a ((X a).length + 1) q = (upd X a (X a ++ [e]) q).length := by
  unfold upd; split <;> simp
theorem xr_le {X : Nat → List Nat} {a b e : Nat} : (upd X a (X a ++ [e]) b).length ≤ (X b).length + 1 := by
  unfold upd; split
  · rename_i h; subst h; simp
  · omega
theorem xr_cells {X : Nat → List Nat} {a e : Nat} {v : Value} (hv : v = .int .i64 (e : Int)) : ∀ i k j, k < upd (fun i => (X i).length) a ((X a).length + 1) i → j < 1 →
    upd (fun i => wcl (X i)) a (capp (X a).length (wcl (X a)) (fun k' j => ([[v]].getD k' []).getD j undef)) i k j = wcl (upd X a (X a ++ [e]) i) k j := by
  intro i k j hk hj
  by_cases h : i = a
  · subst h
    rw [upd_same] at hk ⊢
    rw [upd_same]
    exact wcl_snoc hv k j hk hj
  · rw [upd_ne _ _ h, upd_ne _ _ h]
theorem xo_put {X : Nat → List Nat} {a e : Nat} {A : Nat → Option Addr} {c : Nat → Nat} {A1 : Option Addr} {c1 : Nat} : ∀ k j, j < 1 → cput (hdc A (fun i => (X i).length) c) a 0 (.slice A1 ((X a).length + 1) c1) k j = hdc (upd A a A1) (fun i => (upd X a (X a ++ [e]) i).length) (upd c a c1) k j := by
  intro k j hj
  have : j = 0 := by omega
  subst this
  unfold cput hdc
  have e2 := xr_len (X := X) (a := a) (e := e) k
  dsimp only
  rw [← e2]
  by_cases h : k = a
  · subst h; simp [upd_same]
  · simp [upd_ne _ _ h, h]
theorem egc_snoc {E : List Eg} {r r' : Nat → Int} {f t : Nat} {m pas tick : Int} (h : ∀ k, k < E.length → r' k = r k) (hm : r' E.length = m) : ∀ k j, k < E.length + 1 → j < 5 →
    capp E.length (egc E r) (fun k' j => ([[Value.int .i64 (f : Int), .int .i64 (t : Int), .int .i64 m, .int .i64 pas, .int .i64 tick]].getD k' []).getD j undef) k j = egc (E ++ [⟨f, t, pas, tick⟩]) r' k j := by
  intro k j hk hj
  unfold capp
  by_cases h1 : k < E.length
  · rw [if_pos h1]
    unfold egc
    rw [getD_app h1, h k h1]
  · have e : k = E.length := by omega
    subst e
    rw [if_neg h1, Nat.sub_self]
    unfold egc
    rw [getD_app2 (Nat.le_refl _), Nat.sub_self, hm]
    match j, hj with
    | 0, _ => rfl
    | 1, _ => rfl
    | 2, _ => rfl
    | 3, _ => rfl
    | 4, _ => rfl
theorem egs_two {J : List Jn} {a b : Nat} {most pas tick : Int} : egs (J ++ [⟨a, b, most, ⟨pas, 0, tick, 0⟩⟩]) = (egs J ++ [⟨a, b, pas, tick⟩]) ++ [⟨b, a, -1, 0⟩] := by rw [egs_snoc]; unfold egs2; simp
theorem five {p : Nat → Prop} (h0 : p 0) (h1 : p 1) (h2 : p 2) (h3 : p 3) (h4 : p 4) : ∀ j, j < 5 → p j := by
  intro j hj
  match j, hj with
  | 0, _ => exact h0
  | 1, _ => exact h1
  | 2, _ => exact h2
  | 3, _ => exact h3
  | 4, _ => exact h4
theorem ixs_add {J : List Jn} {a b : Nat} {most pas tick : Int} (h : a ≠ b) (i : Nat) : upd (upd (ixs (egs J)) a (ixs (egs J) a ++ [(egs J).length])) b (upd (ixs (egs J)) a (ixs (egs J) a ++ [(egs J).length]) b ++ [(egs J).length + 1]) i = ixs (egs (J ++ [⟨a, b, most, ⟨pas, 0, tick, 0⟩⟩])) i := by
  rw [ixs_join (by exact h)]
  dsimp only
  rw [upd_ne (i := b) _ _ (fun e => h e.symm), ← egs_len]
  unfold upd
  by_cases h1 : i = b
  · subst h1; rw [if_pos rfl, if_neg (fun e => h e.symm), if_pos rfl]
  · rw [if_neg h1]
    by_cases h2 : i = a
    · subst h2; rw [if_pos rfl, if_pos rfl]
    · rw [if_neg h2, if_neg h2, if_neg h1]


theorem ref_node (E : List Eg) (nb P T : Nat) (st1 st2 : Value) (EA : Option Addr) (ec k : Nat) (AA : Option Addr) (A : Nat → Option Addr) (c : Nat → Nat) (vol : Int) (p t : Nat) (w : World) (F : Nat → Prop) (S : St w F [boxM nb 124 [.int .i64 (P : Int), st1, st2, .int .i64 (T : Int), .slice EA (E).length ec, .slice AA (k) (k), .int .i64 (vol)]] w) (hp : p ≤ 1000) (ht : t ≤ 1000) (hT : T ≤ 1000) :
    Calls Try.prog 74 [.pointer (some ⟨nb, 0, none⟩), .int .i64 (p : Int), .int .i64 (t : Int)].toArray w (Ret (fun u w' => u = .int .i64 ((ndR T p t : Nat) : Int) ∧ w' = w)) := by
 have hb9 : p * (T + 1) ≤ 1000 * 1001 := Nat.mul_le_mul hp (by omega)
 have hc9 : ((p * (T + 1) : Nat) : Int) = (p : Int) * ((T : Int) + 1) := by rw [Int.natCast_mul]; rfl
 refine enter Try.func74 rfl Try.ntmps74 rfl (fun a H => ?_)
 skip
 refine sS H fun K1 k1=>sr 1 rfl <| sE ?_;clear H a;intro a H
 refine k1 _ ?_;clear k1 K1
 replace H := H.keep [0, 1, 2] rfl
 refine sS H fun K2 k2=>sr 3 rfl <| sf fo_124_1 rfl <| sl S 0 one_3 rfl rfl rfl <| sd (does_add rfl rfl (by unfold i64ok; omega)) <| sd (does_mul rfl rfl (by rw [← hc9]; unfold i64ok; omega)) <| sr 1 rfl <| sd (does_add rfl rfl (by rw [← hc9]; unfold i64ok; omega)) <| sr 1 rfl <| sE ?_;clear H a;intro a H
 refine k2 _ ?_;clear k2 K2
 refine wp_ret ?_
 refine ret1 (fn := Try.f74) rfl H rfl ?_
 refine ⟨congrArg (Value.int .i64) ?_, rfl⟩
 unfold ndR
 rw [Int.natCast_add, hc9]

theorem ref_begin (E : List Eg) (nb P T : Nat) (st1 st2 : Value) (EA : Option Addr) (ec k : Nat) (AA : Option Addr) (A : Nat → Option Addr) (c : Nat → Nat) (vol : Int) (w : World) (F : Nat → Prop) (S : St w F [boxM nb 124 [.int .i64 (P : Int), st1, st2, .int .i64 (T : Int), .slice EA (E).length ec, .slice AA (k) (k), .int .i64 (vol)]] w) (hP : P ≤ 1000) (hT : T ≤ 1000) :
    Calls Try.prog 89 [.pointer (some ⟨nb, 0, none⟩)].toArray w (Ret (fun u w' => u = .int .i64 ((P * (T + 1) : Nat) : Int) ∧ St w F [boxM nb 124 [.int .i64 (P : Int), st1, st2, .int .i64 (T : Int), .slice EA (E).length ec, .slice AA (k) (k), .int .i64 (vol)]] w')) := by
 have hb9 : P * (T + 1) ≤ 1000 * 1001 := Nat.mul_le_mul hP (by omega)
 have hc9 : ((P * (T + 1) : Nat) : Int) = (P : Int) * ((T : Int) + 1) := by rw [Int.natCast_mul]; rfl
 refine enter Try.func89 rfl Try.ntmps89 rfl (fun a H => ?_)
 skip
 refine sS H fun K1 k1=>sr 1 rfl <| sE ?_;clear H a;intro a H
 refine k1 _ ?_;clear k1 K1
 replace H := H.keep [0] rfl
 replace S := S.drew
 refine sD H fun K2 k2=>sr 2 rfl <| sf fo_124_0 rfl <| sf fo_25_0 rfl <| sl S 0 one_3 rfl rfl rfl <| sr 2 rfl <| sf fo_124_1 rfl <| sl S 0 one_3 rfl rfl rfl <| sd (does_add rfl rfl (by unfold i64ok; omega)) <| sd (does_mul rfl rfl (by rw [← hc9]; unfold i64ok; omega)) <| sr 1 rfl <| sE ?_;clear H a;intro a H
 refine k2 _ ?_;clear k2 K2
 refine wp_ret ?_
 refine ret1 (fn := Try.f89) rfl H rfl ?_
 exact ⟨congrArg (Value.int .i64) hc9.symm, (S.sel [0] rfl rfl)⟩

theorem ref_add (J : List Jn) (nb P T : Nat) (st1 st2 : Value) (EA : Option Addr) (ec k : Nat) (AA : Option Addr) (A : Nat → Option Addr) (c : Nat → Nat) (vol : Int) (a0 b0 : Nat) (most pas tick : Int) (w : World) (F : Nat → Prop) (S : St w F [boxM nb 124 [.int .i64 (P : Int), st1, st2, .int .i64 (T : Int), .slice EA (egs J).length ec, .slice AA (k) (k), .int .i64 (vol)], ownM 144 5 EA (egs J).length ec (egc (egs J) (egr J)), ownM 23 1 AA (k) (k) (hdc A (fun z9 => ((ixs (egs J)) z9).length) c), ragM 3 1 (fun q => q < k) A (fun z9 => ((ixs (egs J)) z9).length) c (fun z9 => wcl ((ixs (egs J)) z9))] w) (ha : a0 < k) (hb : b0 < k) (hab : a0 ≠ b0) (hJ : J.length ≤ 100000) (hlen : ∀ i, i < k → (ixs (egs J) i).length ≤ 1000000) :
    Calls Try.prog 90 [.pointer (some ⟨nb, 0, none⟩), .int .i64 (a0 : Int), .int .i64 (b0 : Int), .int .i64 most, .int .i64 pas, .int .i64 tick].toArray w (Ret (fun u w' => u = .tuple #[] ∧ ∃ EA' ec' A' c', St w F [boxM nb 124 [.int .i64 (P : Int), st1, st2, .int .i64 (T : Int), .slice EA' (egs (J ++ [⟨a0, b0, most, ⟨pas, 0, tick, 0⟩⟩])).length ec', .slice AA (k) (k), .int .i64 (vol)], ownM 144 5 EA' (egs (J ++ [⟨a0, b0, most, ⟨pas, 0, tick, 0⟩⟩])).length ec' (egc (egs (J ++ [⟨a0, b0, most, ⟨pas, 0, tick, 0⟩⟩])) (egr (J ++ [⟨a0, b0, most, ⟨pas, 0, tick, 0⟩⟩]))), ownM 23 1 AA (k) (k) (hdc A' (fun z9 => ((ixs (egs (J ++ [⟨a0, b0, most, ⟨pas, 0, tick, 0⟩⟩]))) z9).length) c'), ragM 3 1 (fun q => q < k) A' (fun z9 => ((ixs (egs (J ++ [⟨a0, b0, most, ⟨pas, 0, tick, 0⟩⟩]))) z9).length) c' (fun z9 => wcl ((ixs (egs (J ++ [⟨a0, b0, most, ⟨pas, 0, tick, 0⟩⟩]))) z9))] w')) := by
 have hEl := egs_len J
 refine enter Try.func90 rfl Try.ntmps90 rfl (fun a H => ?_)
 skip
 replace S := S.drew
 refine seq_wt 20 (.p 0 (.p 1 (.p 2 (.q 3 (.p 4 (.p 5 (.p 6 (.p 7 (.q 8 (.p 9 (.p 10 (.q 11 (.p 12 (.p 13 (.p 14 (.q 15 (.p 16 (.e 17 (.e 18 (.p 19 (.e 20 .nil))))))))))))))))))))) (by kernel_rfl) (by kernel_rfl) (S.sel [0, 1, 2] rfl rfl) fun K1 k1 => ?_
 refine wt_pure H rfl rfl (fun _ => does_move rfl) ?_;clear H a;intro a H
 refine wt_pure H rfl rfl (fun _ => does_nilCheck rfl) ?_;clear H a;intro a H
 refine wt_pure H rfl rfl (fun _ => (does_field fo_124_3 rfl)) ?_;clear H a;intro a H
 refine wt_does H rfl rfl (fun _ S => does_load one_122 rfl (boxM.rd S (i := 0) rfl rfl)) ?_;clear H a;intro a H
 refine wt_pure H rfl rfl (fun _ => does_move rfl) ?_;clear H a;intro a H
 refine wt_pure H rfl rfl (fun _ => does_move rfl) ?_;clear H a;intro a H
 refine wt_pure H rfl rfl (fun _ => does_nilCheck rfl) ?_;clear H a;intro a H
 refine wt_pure H rfl rfl (fun _ => (does_field fo_124_3 rfl)) ?_;clear H a;intro a H
 refine wt_does H rfl rfl (fun _ S => does_load one_122 rfl (boxM.rd S (i := 0) rfl rfl)) ?_;clear H a;intro a H
 refine wt_pure H rfl rfl (fun _ => does_move rfl) ?_;clear H a;intro a H
 refine wt_pure H rfl rfl (fun _ => does_indexN sl_122 sz_23 rfl rfl (ownM.adr S (i := 2) rfl (by omega)) (by omega)) ?_;clear H a;intro a H
 refine wt_does H rfl rfl (fun _ S => does_load one_23 rfl (ownM.rd S (i := 2) rfl (by omega) (by omega))) ?_;clear H a;intro a H
 refine wt_pure H rfl rfl (fun _ => does_move rfl) ?_;clear H a;intro a H
 refine wt_pure H rfl rfl (fun _ => does_nilCheck rfl) ?_;clear H a;intro a H
 refine wt_pure H rfl rfl (fun _ => (does_field fo_124_2 rfl)) ?_;clear H a;intro a H
 refine wt_does H rfl rfl (fun _ S => does_load one_121 rfl (boxM.rd S (i := 0) rfl rfl)) ?_;clear H a;intro a H
 refine wt_pure H rfl rfl (fun _ => does_len sl_121 rfl) ?_;clear H a;intro a H
 refine wt_eff rfl ?_
 refine list_build' H rfl S sl_23 sz_3 ze_3 rfl rfl rfl rfl rfl rfl rfl rfl rfl ?_;clear H a S;intro A1 _ a hA1 S H
 refine wpList_nil (And.intro (Or.inr (S.sel [1, 2, 3] rfl rfl)) ?_)
 refine wt_eff rfl ?_
 replace S := ragM.pull S (i := 4) rfl ha
 refine list_append H rfl S sl_23 sz_3 ze_3 by_3 rfl rfl (i := 0) rfl rfl rfl (ownM.inS S (i := 0 + 1) rfl) (one_vs (one rfl)) (by have h9 := hlen a0 ha; omega) (by have h9 := hlen a0 ha; omega) ?_;clear H a S;intro Aa0 ca0 _ a S H
 replace S := ragM.put S (i := 4) (p := a0) rfl ha
 replace S := ragM.congr S (i := 4) rfl (n' := fun i => ((upd (ixs (egs J)) a0 ((ixs (egs J)) a0 ++ [(egs J).length])) i).length) (cell' := fun i => wcl ((upd (ixs (egs J)) a0 ((ixs (egs J)) a0 ++ [(egs J).length])) i)) (fun _ _ => rfl) (fun q _ => xr_len q) (fun _ _ => rfl) (fun i _ => xr_cells rfl i)
 refine wpList_nil (And.intro (Or.inr (S.sel [1, 2, 3] rfl rfl)) ?_)
 refine wt_pure H rfl rfl (fun _ => does_indexN sl_122 sz_23 rfl rfl (ownM.adr S (i := 3) rfl (by omega)) (by omega)) ?_;clear H a;intro a H
 refine wt_eff rfl ?_
 refine list_store_own H S (i := 3) rfl rfl rfl (by omega) (by omega) sz_23 rfl ?_
 clear H a S;intro _ a S H
 replace S := S.recell (i := 3) rfl (cell' := hdc (upd A a0 Aa0) (fun i => ((upd (ixs (egs J)) a0 ((ixs (egs J)) a0 ++ [(egs J).length])) i).length) (upd c a0 ca0)) (fun k j hk hj => xo_put k j hj)
 refine wpList_nil (And.intro (Or.inl rfl) ?_)
 refine wt_nil ?_
 refine k1 _ _ ?_
 clear k1 K1
 replace S := (S.sel [0, 1, 2, 3, 4] rfl rfl)
 replace H := H.keep [0, 1, 2, 3, 4, 5] rfl
 refine seq_list fun K2 k2 => ?_
 refine ls 11 H <| sr 3 rfl <| sf fo_124_2 rfl <| sl S 1 one_121 rfl rfl rfl <| sr 5 rfl <| sd (does_build bt_144 rfl rfl) <| sE ?_;clear H a;intro a H
 refine list_build' H rfl S sl_121 sz_144 ze_144 rfl rfl rfl rfl rfl rfl rfl rfl rfl ?_;clear H a S;intro A2 _ a hA2 S H
 refine list_append H rfl S sl_121 sz_144 ze_144 by_144 rfl rfl (i := 3) rfl rfl rfl (ownM.inS S (i := 0) rfl) (one_vs (five rfl rfl rfl rfl rfl)) (by omega) (by omega) ?_;clear H a S;intro A3 c3 _ a S H
 replace S := S.recell (i := 3) rfl (cell' := egc (egs J ++ [(⟨a0, b0, pas, tick⟩ : Eg)]) (egr (J ++ [⟨a0, b0, most, ⟨pas, 0, tick, 0⟩⟩]))) (fun k j hk hj => egc_snoc (fun q hq => egr_old (by omega)) (by rw [hEl]; exact egr_get0 _ _) k j hk hj)
 rw [show (egs J).length + 1 = (egs J ++ [(⟨a0, b0, pas, tick⟩ : Eg)]).length by simp] at H S
 refine ls 2 H <| sr 1 rfl <| sf fo_124_2 rfl <| sE ?_;clear H a;intro a H
 refine list_store H S (i := 2) rfl rfl rfl rfl sz_121 rfl rfl ?_
 clear H a S;intro _ a S H
 refine k2 _ _ ?_;clear k2 K2
 replace S := (S.sel [0, 1, 2, 3, 4, 5] rfl rfl)
 replace H := H.keep [0, 1, 2] rfl
 replace S := S.drew
 refine seq_wt 20 (.p 0 (.p 1 (.p 2 (.q 3 (.p 4 (.p 5 (.p 6 (.p 7 (.q 8 (.p 9 (.p 10 (.q 11 (.p 12 (.p 13 (.p 14 (.q 15 (.p 16 (.e 17 (.e 18 (.p 19 (.e 20 .nil))))))))))))))))))))) (by kernel_rfl) (by kernel_rfl) (S.sel [0, 1, 2, 3, 4] rfl rfl) fun K3 k3 => ?_
 refine wt_pure H rfl rfl (fun _ => does_move rfl) ?_;clear H a;intro a H
 refine wt_pure H rfl rfl (fun _ => does_nilCheck rfl) ?_;clear H a;intro a H
 refine wt_pure H rfl rfl (fun _ => (does_field fo_124_3 rfl)) ?_;clear H a;intro a H
 refine wt_does H rfl rfl (fun _ S => does_load one_122 rfl (boxM.rd S (i := 2) rfl rfl)) ?_;clear H a;intro a H
 refine wt_pure H rfl rfl (fun _ => does_move rfl) ?_;clear H a;intro a H
 refine wt_pure H rfl rfl (fun _ => does_move rfl) ?_;clear H a;intro a H
 refine wt_pure H rfl rfl (fun _ => does_nilCheck rfl) ?_;clear H a;intro a H
 refine wt_pure H rfl rfl (fun _ => (does_field fo_124_3 rfl)) ?_;clear H a;intro a H
 refine wt_does H rfl rfl (fun _ S => does_load one_122 rfl (boxM.rd S (i := 2) rfl rfl)) ?_;clear H a;intro a H
 refine wt_pure H rfl rfl (fun _ => does_move rfl) ?_;clear H a;intro a H
 refine wt_pure H rfl rfl (fun _ => does_indexN sl_122 sz_23 rfl rfl (ownM.adr S (i := 4) rfl (by omega)) (by omega)) ?_;clear H a;intro a H
 refine wt_does H rfl rfl (fun _ S => does_load one_23 rfl (ownM.rd S (i := 4) rfl (by omega) (by omega))) ?_;clear H a;intro a H
 refine wt_pure H rfl rfl (fun _ => does_move rfl) ?_;clear H a;intro a H
 refine wt_pure H rfl rfl (fun _ => does_nilCheck rfl) ?_;clear H a;intro a H
 refine wt_pure H rfl rfl (fun _ => (does_field fo_124_2 rfl)) ?_;clear H a;intro a H
 refine wt_does H rfl rfl (fun _ S => does_load one_121 rfl (boxM.rd S (i := 2) rfl rfl)) ?_;clear H a;intro a H
 refine wt_pure H rfl rfl (fun _ => does_len sl_121 rfl) ?_;clear H a;intro a H
 refine wt_eff rfl ?_
 refine list_build' H rfl S sl_23 sz_3 ze_3 rfl rfl rfl rfl rfl rfl rfl rfl rfl ?_;clear H a S;intro A4 _ a hA4 S H
 refine wpList_nil (And.intro (Or.inr (S.sel [1, 2, 3, 4, 5] rfl rfl)) ?_)
 refine wt_eff rfl ?_
 replace S := ragM.pull S (i := 6) rfl hb
 refine list_append H rfl S sl_23 sz_3 ze_3 by_3 rfl rfl (i := 0) rfl rfl rfl (ownM.inS S (i := 0 + 1) rfl) (one_vs (one rfl)) (by have h9 : ((upd (ixs (egs J)) a0 (ixs (egs J) a0 ++ [(egs J).length])) b0).length ≤ (ixs (egs J) b0).length + 1 := xr_le; have h8 := hlen b0 hb; omega) (by have h9 : ((upd (ixs (egs J)) a0 (ixs (egs J) a0 ++ [(egs J).length])) b0).length ≤ (ixs (egs J) b0).length + 1 := xr_le; have h8 := hlen b0 hb; omega) ?_;clear H a S;intro Ab0 cb0 _ a S H
 replace S := ragM.put S (i := 6) (p := b0) rfl hb
 replace S := ragM.congr S (i := 6) rfl (n' := fun i => ((upd (upd (ixs (egs J)) a0 (ixs (egs J) a0 ++ [(egs J).length])) b0 ((upd (ixs (egs J)) a0 (ixs (egs J) a0 ++ [(egs J).length])) b0 ++ [(egs J).length + 1])) i).length) (cell' := fun i => wcl ((upd (upd (ixs (egs J)) a0 (ixs (egs J) a0 ++ [(egs J).length])) b0 ((upd (ixs (egs J)) a0 (ixs (egs J) a0 ++ [(egs J).length])) b0 ++ [(egs J).length + 1])) i)) (fun _ _ => rfl) (fun q _ => xr_len q) (fun _ _ => rfl) (fun i _ => xr_cells (by rw [List.length_append]; rfl) i)
 refine wpList_nil (And.intro (Or.inr (S.sel [1, 2, 3, 4, 5] rfl rfl)) ?_)
 refine wt_pure H rfl rfl (fun _ => does_indexN sl_122 sz_23 rfl rfl (ownM.adr S (i := 5) rfl (by omega)) (by omega)) ?_;clear H a;intro a H
 refine wt_eff rfl ?_
 refine list_store_own H S (i := 5) rfl rfl rfl (by omega) (by omega) sz_23 rfl ?_
 clear H a S;intro _ a S H
 replace S := S.recell (i := 5) rfl (cell' := hdc (upd (upd A a0 Aa0) b0 Ab0) (fun i => ((upd (upd (ixs (egs J)) a0 (ixs (egs J) a0 ++ [(egs J).length])) b0 ((upd (ixs (egs J)) a0 (ixs (egs J) a0 ++ [(egs J).length])) b0 ++ [(egs J).length + 1])) i).length) (upd (upd c a0 ca0) b0 cb0)) (fun k j hk hj => xo_put k j hj)
 refine wpList_nil (And.intro (Or.inl rfl) ?_)
 refine wt_nil ?_
 refine k3 _ _ ?_
 clear k3 K3
 replace S := (S.sel [0, 1, 2, 3, 4, 5, 6] rfl rfl)
 replace H := H.keep [0, 1, 2] rfl
 refine one_list ?_
 refine ls 8 H <| sr 3 rfl <| sf fo_124_2 rfl <| sl S 3 one_121 rfl rfl rfl <| sr 2 rfl <| sd (does_build bt_144 rfl rfl) <| sE ?_;clear H a;intro a H
 refine list_build' H rfl S sl_121 sz_144 ze_144 rfl rfl rfl rfl rfl rfl rfl rfl rfl ?_;clear H a S;intro A5 _ a hA5 S H
 refine list_append H rfl S sl_121 sz_144 ze_144 by_144 rfl rfl (i := 5) rfl rfl rfl (ownM.inS S (i := 0) rfl) (one_vs (five rfl rfl rfl rfl rfl)) (by simp only [List.length_append, List.length_singleton]; omega) (by simp only [List.length_append, List.length_singleton]; omega) ?_;clear H a S;intro A6 c6 _ a S H
 replace S := S.recell (i := 5) rfl (cell' := egc (egs (J ++ [⟨a0, b0, most, ⟨pas, 0, tick, 0⟩⟩])) (egr (J ++ [⟨a0, b0, most, ⟨pas, 0, tick, 0⟩⟩]))) (fun k j hk hj => by rw [egs_two]; exact egc_snoc (m := 0) (fun q hq => rfl) (by rw [List.length_append, hEl]; exact egr_get1 _ _) k j hk hj)
 rw [show (egs J ++ [(⟨a0, b0, pas, tick⟩ : Eg)]).length + 1 = (egs (J ++ [⟨a0, b0, most, ⟨pas, 0, tick, 0⟩⟩])).length by rw [egs_two]; simp] at H S
 refine ls 2 H <| sr 1 rfl <| sf fo_124_2 rfl <| sE ?_;clear H a;intro a H
 refine list_store H S (i := 4) rfl rfl rfl rfl sz_121 rfl rfl ?_
 clear H a S;intro _ a S H
 refine ret0 (fn := Try.f90) rfl H ?_
 replace S := (S.sel [0, 1, 2, 3, 4, 5, 6, 7] rfl rfl)
 replace S := S.recell (i := 6) rfl (cell' := hdc (upd (upd A a0 Aa0) b0 Ab0) (fun i => (ixs (egs (J ++ [⟨a0, b0, most, ⟨pas, 0, tick, 0⟩⟩])) i).length) (upd (upd c a0 ca0) b0 cb0)) (fun k j _ _ => by unfold hdc; have e9 := ixs_add (J := J) (most := most) (pas := pas) (tick := tick) hab k; dsimp only; rw [e9])
 replace S := ragM.congr S (i := 7) rfl (n' := fun i => (ixs (egs (J ++ [⟨a0, b0, most, ⟨pas, 0, tick, 0⟩⟩])) i).length) (cell' := fun i => wcl (ixs (egs (J ++ [⟨a0, b0, most, ⟨pas, 0, tick, 0⟩⟩])) i)) (fun _ _ => rfl) (fun q _ => congrArg List.length (ixs_add hab q)) (fun _ _ => rfl) (fun i _ k j _ _ => congrArg (fun l => wcl l k j) (ixs_add hab i))
 exact ⟨rfl, _, _, _, _, (S.sel [4, 5, 6, 7] rfl rfl)⟩

end Go.Proofs.Ytlmddkekeoebcaa
