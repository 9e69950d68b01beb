/- ChD. Printed by gen.py. -/
import Derived.Test.YtlejjfhgfajoiaaChC
namespace Go.Proofs.Ytlejjfhgfajoiaa
open Go.RowKit
set_option linter.unusedVariables false
set_option linter.unusedSimpArgs false


/-- What a web's making leaves. -/
def Woven (w : World) (n : Nat) (o : Option IM) (v : Value) (w' : World) : Prop := match o with
  | some M => ∃ W rb rc, v = .tuple #[.slice W n n, .bool true] ∧ St w noF [ownM 29 1 W n n (fun i _ => rowv rb rc n i), rowsM 3 n n rb rc (M)] w'
  | none => v = .tuple #[.slice none 0 0, .bool false] ∧ St w noF [] w'
theorem gto_fail {n : Nat} {l : List Gauge} {p : Nat → Bool} {M M' : IM} {k : Nat} (hk : k < l.length) (h : gto n l p M k = some M') (hp : p k = true) (hd : diagB n (tightM M' (l.getD k Gauge.zero).fr.toNat (l.getD k Gauge.zero).to.toNat (l.getD k Gauge.zero).lo (l.getD k Gauge.zero).hi) = false) : gto n l p M l.length = none := by
  refine gto_none (k := k + 1) ?_ _ hk
  simp only [gto, h, hp, if_true, gOne, hd]
  rfl
theorem gto_on {n : Nat} {l : List Gauge} {p : Nat → Bool} {M M' : IM} {k : Nat} (h : gto n l p M k = some M') (hp : p k = true) (hd : diagB n (tightM M' (l.getD k Gauge.zero).fr.toNat (l.getD k Gauge.zero).to.toNat (l.getD k Gauge.zero).lo (l.getD k Gauge.zero).hi) = true) : gto n l p M (k + 1) = some (tightM M' (l.getD k Gauge.zero).fr.toNat (l.getD k Gauge.zero).to.toNat (l.getD k Gauge.zero).lo (l.getD k Gauge.zero).hi) := by
  simp only [gto, h, hp, if_true, gOne, hd]
theorem gto_skip {n : Nat} {l : List Gauge} {p : Nat → Bool} {M M' : IM} {k : Nat} (h : gto n l p M k = some M') (hp : p k = false) : gto n l p M (k + 1) = some M' := by
  simp only [gto, h, hp]
  rfl
theorem web_tightenI (n cw : Nat) (W : Option Addr) (rb rc : Nat → Nat) (M : IM) (i j : Int) (lo hi : Int) (w : World) (F : Nat → Prop) (S : St w F [ownM 29 1 W n cw (fun i _ => rowv rb rc n i), rowsM 3 n n rb rc (M)] w) (h0i : 0 ≤ i) (h0j : 0 ≤ j) (hin : i.toNat < n) (hjn : j.toNat < n) (hn : n ≤ 1000) (hM : bdd n 2199023255552 M) (hlo : -2199023255552 ≤ lo ∧ lo ≤ 2199023255552) (hhi : -2199023255552 ≤ hi ∧ hi ≤ 2199023255552) :
    Calls Try.prog 64 [.slice W n cw, .int .i64 i, .int .i64 j, .agg [.int .i64 lo, .int .i64 hi].toArray].toArray w (Ret (fun v w' => v = .bool (diagB n (tightM M i.toNat j.toNat lo hi)) ∧ St w F [ownM 29 1 W n cw (fun i _ => rowv rb rc n i), rowsM 3 n n rb rc (tightM M i.toNat j.toNat lo hi)] w')) := by
  have h := web_tighten n cw W rb rc M i.toNat j.toNat lo hi w F S hin hjn hn hM hlo hhi
  rw [Int.toNat_of_nonneg h0i, Int.toNat_of_nonneg h0j] at h
  exact h
theorem getD2 {v : Value} {k j : Nat} (hk : k < 1) (hj : j < 1) : ([[v]].getD k []).getD j undef = v := by
  have e1 : k = 0 := by omega
  have e2 : j = 0 := by omega
  subst e1; subst e2; rfl
theorem at_of (W : Option Addr) (b : Nat) (n : Nat) (h : W = some ⟨b, 0, none⟩) : W ≠ none := by rw [h]; intro h; cases h


set_option maxRecDepth 100000 in
set_option maxHeartbeats 1000000 in
theorem chain_weave (m : Nat) (pitch limit : Int) (l : List Gauge) (A : Option Addr) (cp : Nat) (p : Nat → Bool) (f : Nat) (fn : Func) (caps : List Value) (w : World) (hc : chainOk ⟨(m : Int), pitch, limit⟩ = true) (hlen : l.length ≤ 40) (hg : l.all (gaugeOk m) = true) (hl : InS w noF 4 A l.length (gcell l)) (hf : Try.prog.funcs[f]? = some fn) (hfb : fn.body.isNone = false) (hfn : (fn.name == "runtime.NumGoroutine") = false) (hcall : ∀ (k : Nat) (w' : World), k < l.length → Keeps w w' noF → Calls Try.prog f (.int .i64 (k : Int) :: caps).toArray w' (Ret fun v w'' => v = .bool (p k) ∧ w'' = w')) :
    Calls Try.prog 80 [.agg [.int .i64 (m : Int), .int .i64 pitch, .int .i64 limit].toArray, .slice A l.length cp, .func (.func f) [].toArray caps.toArray].toArray w (Ret (Woven w (m + 1) (weaveW ⟨(m : Int), pitch, limit⟩ l p))) := by
  have hc0 := hc
  unfold chainOk at hc; simp only [decide_eq_true_eq] at hc
  refine enter Try.func80 rfl Try.ntmps80 rfl (fun a H => ?_)
  have S := St.start w
  refine seq_list (fun K1 hK1 => ?_)
  refine list_box H rfl S rfl rfl ?_; clear H a S; intro b3 _ a hb3 hbw3 S H
  refine list_does H rfl (does_assign rfl) ?_; clear H a; intro a H
  refine list_does H rfl (does_assign rfl) ?_; clear H a; intro a H
  refine hK1 _ _ ?_
  clear hK1 K1
  replace H := H.keep [1, 2, 3] rfl
  refine seq_list (fun K2 hK2 => ?_)
  refine list_does H rfl (by first | exact does_field_pt fo_23_0 rfl | exact does_field fo_23_0 rfl) ?_; clear H a; intro a H
  refine list_does H rfl (does_load one_3 rfl (by first | exact boxM.rd S (i := 0) rfl rfl)) ?_; clear H a; intro a H
  refine list_does H rfl (does_add rfl rfl (by unfold i64ok; omega)) ?_; clear H a; intro a H
  refine list_make (n := m + 1) H rfl S sl_94 sz_29 ze_29 by_29 rfl (by decide) rfl rfl (by omega) (by omega) ?_; clear H a S; intro A1 _ a hA1 S H
  generalize hW : A1 = W at S H
  replace S := S.recell (i := 0) rfl (cell' := fun i _ => if i < 0 then rowv (fun _ => 0) (fun _ => 0) (m + 1) i else .slice none 0 0) (fun k j _ hj => by (try dsimp only); rw [if_neg (by omega)]; exact getD1 hj)
  refine list_does H rfl (does_assign rfl) ?_; clear H a; intro a H
  refine hK2 _ _ ?_
  clear hK2 K2
  refine wp_seq_k (fun K3 hK3 => ?_)
  replace H := H.keep [1, 2, 3, 8] rfl
  refine seq_still (fun K4 hK4 => ?_)
  refine still_does H rfl (does_move rfl) ?_; clear H a; intro a H
  refine still_does H rfl (does_len sl_94 rfl) ?_; clear H a; intro a H
  refine still_does H rfl (does_move rfl) ?_; clear H a; intro a H
  refine wpStill_nil (hK4 _ ?_)
  clear hK4 K4
  refine wp_block ?_
  replace S := rowsM.zero S 3 (m + 1) (fun _ => 0) (fun _ => 0) M0
  refine loop_st (X := Nat × (Nat → Nat) × (Nat → Nat)) (R0 := _) [1, 2, 3, 8, 18] H rfl (fun ⟨k, rb, rc⟩ => [(19, .int .i64 (k : Int))]) (fun ⟨k, rb, rc⟩ => [ownM 29 1 W (m + 1) (m + 1) (fun i _ => if i < k then rowv rb rc (m + 1) i else .slice none 0 0), rowsM 3 k (m + 1) rb rc (M0)]) (fun g ⟨k, rb, rc⟩ => k ≤ m + 1 ∧ g + k = m + 1) (m + 1) (0, (fun _ => 0), (fun _ => 0)) ?_ (S.sel [1, 0, 2] rfl rfl) (H.keep [19, 1, 2, 3, 8, 18] rfl) ?_
  · exact ⟨by omega, by omega⟩
  · intro g1 x1 a w1 hp S H K5 hK5
    obtain ⟨k, rb, rc⟩ := x1
    dsimp only at hp S H
    replace H := H.keep [1, 2, 3, 8, 18, 19] rfl
    refine seq_still (fun K6 hK6 => ?_)
    refine still_does H rfl (does_lss rfl rfl) ?_; clear H a; intro a H
    refine wpStill_nil (hK6 _ ?_)
    clear hK6 K6
    refine wp_seq_k (fun K7 hK7 => ?_)
    refine cond_ H rfl (fun hc1 => ?_) (fun hc1 => ?_)
    · try simp only [Bool.or_eq_true, Bool.and_eq_true, Bool.not_eq_true', Bool.or_eq_false_iff, Bool.and_eq_false_iff, Bool.not_eq_false', decide_eq_true_eq, decide_eq_false_iff_not, Int.not_lt, Int.not_le] at hc1
      refine wp_skip ?_
      refine hK7 _ _ ?_
      refine wp_seq_k (fun K8 hK8 => ?_)
      refine wp_block ?_
      replace H := H.keep [1, 2, 3, 8, 18, 19] rfl
      refine seq_still (fun K9 hK9 => ?_)
      refine still_does H rfl (does_move rfl) ?_; clear H a; intro a H
      refine still_does H rfl (does_assign rfl) ?_; clear H a; intro a H
      refine wpStill_nil (hK9 _ ?_)
      clear hK9 K9
      replace H := H.keep [1, 2, 3, 8, 9, 18, 19] rfl
      refine seq_list (fun K10 hK10 => ?_)
      refine list_does H rfl (does_move rfl) ?_; clear H a; intro a H
      refine list_does H rfl (does_move rfl) ?_; clear H a; intro a H
      refine list_build' H rfl S sl_29 sz_3 ze_3 rfl rfl rfl rfl rfl rfl rfl rfl rfl ?_; clear H a S; intro A2 _ a hA2 S H
      refine list_does H rfl (by first | exact does_field_pt fo_23_0 rfl | exact does_field fo_23_0 rfl) ?_; clear H a; intro a H
      refine list_does H rfl (does_load one_3 rfl (by first | exact boxM.rd S (i := 0) rfl rfl | exact boxM.rd S (i := 1) rfl rfl | exact boxM.rd S (i := 2) rfl rfl | exact boxM.rd S (i := 3) rfl rfl)) ?_; clear H a; intro a H
      refine list_does H rfl (does_add rfl rfl (by unfold i64ok; omega)) ?_; clear H a; intro a H
      refine list_call H rfl rfl Try.func90 rfl rfl (slices_Repeat _ _ wide (m + 1) _ ((ownM.inS S (i := 0) rfl).congr (fun k j hk hj => getD2 hk hj)) (by omega) (by omega)) ?_; clear H a
      rintro _ _ a ⟨b, rfl, S2⟩ H
      replace S := S.call S2; clear S2
      refine list_does H rfl (by first | exact does_indexN sl_94 sz_29 rfl rfl (by first | exact hl.adr (by omega) | exact ownM.adr S (i := 2) rfl (by omega) | exact rfl) (by first | omega | omega) | exact does_index sl_94 sz_29 rfl rfl (by first | exact hl.adr (by omega) | exact ownM.adr S (i := 2) rfl (by omega) | exact rfl) (by omega) (by first | omega | omega)) ?_; clear H a; intro a H
      first | (refine list_store_own H S (i := 2) rfl rfl rfl (by omega) (by omega) sz_29 rfl ?_)
      clear H a S; intro _ a S H
      replace S := (S.sel [0, 3, 2, 4] rfl rfl)
      obtain ⟨b', hb', S3⟩ := rowsM.add S (by intro h; cases h) (f := fun _ => wide) (fun j hj => rfl)
      cases hb'
      replace S := S3; clear S3
      have S := S.recell (i := 1) rfl (cell' := fun i _ => if i < k + 1 then rowv (updN rb k b) (updN rc k (m + 1)) (m + 1) i else .slice none 0 0) (fun k' j hk hj => by
        unfold cput rowv updN; (try dsimp only)
        by_cases h1 : k' = k
        · subst h1; rw [if_pos ⟨rfl, by omega⟩]; simp
        · rw [if_neg (by omega), if_neg h1, if_neg h1]; by_cases h2 : k' < k
          · rw [if_pos h2, if_pos (by omega)]
          · rw [if_neg h2, if_neg (by omega)])
      refine hK10 _ _ ?_
      clear hK10 K10
      replace H := H.keep [1, 2, 3, 8, 9, 18, 19] rfl
      refine one_list ?_
      refine list_does H rfl (does_move rfl) ?_; clear H a; intro a H
      refine list_does H rfl (does_move rfl) ?_; clear H a; intro a H
      refine list_does H rfl (by first | exact does_indexN sl_94 sz_29 rfl rfl (by first | exact hl.adr (by omega) | exact ownM.adr S (i := 1) rfl (by omega) | exact rfl) (by first | omega | omega) | exact does_index sl_94 sz_29 rfl rfl (by first | exact hl.adr (by omega) | exact ownM.adr S (i := 1) rfl (by omega) | exact rfl) (by omega) (by first | omega | omega)) ?_; clear H a; intro a H
      refine list_does H rfl (does_load one_29 rfl (by have h9 := ownM.rd S (i := 1) (k := k) (j := 0) rfl (by omega) (by omega); (try dsimp only at h9); rw [if_pos (by omega)] at h9; exact h9)) ?_; clear H a; intro a H
      refine list_does H rfl (does_move rfl) ?_; clear H a; intro a H
      refine list_does H rfl (by first | exact does_indexN sl_29 sz_3 rfl rfl (by first | exact hl.adr (by omega) | exact ownM.adr S (i := 1) rfl (by omega) | exact rfl) (by first | omega | omega) | exact does_index sl_29 sz_3 rfl rfl (by first | exact hl.adr (by omega) | exact ownM.adr S (i := 1) rfl (by omega) | exact rfl) (by omega) (by first | omega | omega)) ?_; clear H a; intro a H
      first | (refine list_store_row H S (i := 0) (p := k) (q := k) rfl rfl rfl (by omega) (by omega) sz_3 ?_)
      clear H a S; intro _ a S H
      replace S := rowsM.congr S (i := 0) (M' := M0) rfl (fun x y hx hy => by unfold mset mrow M0; by_cases h1 : x = k <;> by_cases h2 : y = k <;> (try subst h1) <;> (try subst h2) <;> simp [*] <;> (try (intro h3; exact absurd h3.symm (by assumption))) <;> omega) (fun _ _ => rfl) (fun _ _ => rfl)
      refine hK8 _ _ ?_
      replace H := H.keep [1, 2, 3, 8, 18, 19] rfl
      refine one_still ?_
      refine still_does H rfl (does_add rfl rfl (by unfold i64ok; omega)) ?_; clear H a; intro a H
      refine still_does H rfl (does_move rfl) ?_; clear H a; intro a H
      refine wpStill_nil ?_
      exact hK5 (g1 - 1) (k + 1, updN rb k b, updN rc k (m + 1)) a _ (by omega) (by omega) (S.sel [1, 0, 2] rfl rfl) (H.keep [19, 1, 2, 3, 8, 18] rfl)
    · try simp only [Bool.or_eq_true, Bool.and_eq_true, Bool.not_eq_true', Bool.or_eq_false_iff, Bool.and_eq_false_iff, Bool.not_eq_false', decide_eq_true_eq, decide_eq_false_iff_not, Int.not_lt, Int.not_le] at hc1
      refine wp_exit ?_
      refine hK3 _ _ ?_
      refine wp_seq_k (fun K13 hK13 => ?_)
      replace H := H.keep [1, 2, 3, 8] rfl
      refine seq_still (fun K14 hK14 => ?_)
      refine still_does H rfl (by first | exact does_field_pt fo_23_0 rfl | exact does_field fo_23_0 rfl) ?_; clear H a; intro a H
      refine still_does H rfl (does_load one_3 rfl (by first | exact boxM.rd S (i := 0) rfl rfl | exact boxM.rd S (i := 1) rfl rfl | exact boxM.rd S (i := 2) rfl rfl)) ?_; clear H a; intro a H
      refine still_does H rfl (does_move rfl) ?_; clear H a; intro a H
      refine wpStill_nil (hK14 _ ?_)
      clear hK14 K14
      refine wp_block ?_
      replace S := S.recell (i := 0) rfl (cell' := fun i _ => rowv rb rc (m + 1) i) (fun k' j hk _ => by (try dsimp only); rw [if_pos (by omega)])
      have hk1 : m + 1 = k := by omega
      subst hk1
      refine loop_st (X := Nat) (R0 := _) [1, 2, 3, 8, 38] H rfl (fun k => [(39, .int .i64 (k : Int))]) (fun k => [rowsM 3 (m + 1) (m + 1) rb rc (linksTo ⟨(m : Int), pitch, limit⟩ k)]) (fun g k => k ≤ m ∧ g + k = m) (m) 0 ?_ (S.sel [1, 0, 2] rfl rfl) (H.keep [39, 1, 2, 3, 8, 38] rfl) ?_
      · exact ⟨by omega, by omega⟩
      · intro g2 x2 a w2 hp S H K15 hK15
        obtain ⟨k, rfl⟩ : ∃ y, y = x2 := ⟨_, rfl⟩
        skip
        replace H := H.keep [1, 2, 3, 8, 38, 39] rfl
        refine seq_still (fun K16 hK16 => ?_)
        refine still_does H rfl (does_lss rfl rfl) ?_; clear H a; intro a H
        refine wpStill_nil (hK16 _ ?_)
        clear hK16 K16
        refine wp_seq_k (fun K17 hK17 => ?_)
        refine cond_ H rfl (fun hc2 => ?_) (fun hc2 => ?_)
        · try simp only [Bool.or_eq_true, Bool.and_eq_true, Bool.not_eq_true', Bool.or_eq_false_iff, Bool.and_eq_false_iff, Bool.not_eq_false', decide_eq_true_eq, decide_eq_false_iff_not, Int.not_lt, Int.not_le] at hc2
          refine wp_skip ?_
          refine hK17 _ _ ?_
          refine wp_seq_k (fun K18 hK18 => ?_)
          refine wp_block ?_
          replace H := H.keep [1, 2, 3, 8, 38, 39] rfl
          refine seq_still (fun K19 hK19 => ?_)
          refine still_does H rfl (does_move rfl) ?_; clear H a; intro a H
          refine still_does H rfl (does_assign rfl) ?_; clear H a; intro a H
          refine wpStill_nil (hK19 _ ?_)
          clear hK19 K19
          replace H := H.keep [1, 2, 3, 8, 10, 38, 39] rfl
          refine one_list ?_
          refine list_does H rfl (does_move rfl) ?_; clear H a; intro a H
          refine list_does H rfl (does_move rfl) ?_; clear H a; intro a H
          refine list_does H rfl (does_move rfl) ?_; clear H a; intro a H
          refine list_does H rfl (does_add rfl rfl (by unfold i64ok; omega)) ?_; clear H a; intro a H
          refine list_does H rfl (by first | exact does_field_pt fo_23_1 rfl | exact does_field fo_23_1 rfl) ?_; clear H a; intro a H
          refine list_does H rfl (does_load one_3 rfl (by first | exact boxM.rd S (i := 0) rfl rfl | exact boxM.rd S (i := 1) rfl rfl | exact boxM.rd S (i := 2) rfl rfl)) ?_; clear H a; intro a H
          refine list_does H rfl (by first | exact does_field_pt fo_23_2 rfl | exact does_field fo_23_2 rfl) ?_; clear H a; intro a H
          refine list_does H rfl (does_load one_3 rfl (by first | exact boxM.rd S (i := 0) rfl rfl | exact boxM.rd S (i := 1) rfl rfl | exact boxM.rd S (i := 2) rfl rfl)) ?_; clear H a; intro a H
          refine list_does H rfl (does_build bt_42 rfl rfl) ?_; clear H a; intro a H
          have S1 := (S.sel [1, 0] rfl rfl)
          refine list_call H rfl rfl Try.func64 rfl rfl (web_tighten (m + 1) (m + 1) W rb rc (linksTo ⟨(m : Int), pitch, limit⟩ k) k (k + 1) pitch limit _ _ S1.startR (by omega) (by omega) (by omega) (linksTo_ok hc0 (n := m + 1) (by omega) k (by omega)).1.bdd (by omega) (by omega)) ?_; clear H a
          rintro _ _ a ⟨rfl, S2⟩ H
          replace S := (S.sel [1, 0, 2] rfl rfl).callR (M := [_, _]) S2; clear S1 S2
          refine hK18 _ _ ?_
          replace H := H.keep [1, 2, 3, 8, 38, 39] rfl
          refine one_still ?_
          refine still_does H rfl (does_add rfl rfl (by unfold i64ok; omega)) ?_; clear H a; intro a H
          refine still_does H rfl (does_move rfl) ?_; clear H a; intro a H
          refine wpStill_nil ?_
          exact hK15 (g2 - 1) (k + 1) a _ (by omega) (by omega) (S.sel [1, 0, 2] rfl rfl) (H.keep [39, 1, 2, 3, 8, 38] rfl)
        · try simp only [Bool.or_eq_true, Bool.and_eq_true, Bool.not_eq_true', Bool.or_eq_false_iff, Bool.and_eq_false_iff, Bool.not_eq_false', decide_eq_true_eq, decide_eq_false_iff_not, Int.not_lt, Int.not_le] at hc2
          refine wp_exit ?_
          refine hK13 _ _ ?_
          refine wp_seq_k (fun K22 hK22 => ?_)
          replace H := H.keep [1, 2, 8] rfl
          refine seq_still (fun K23 hK23 => ?_)
          refine still_does H rfl (does_move rfl) ?_; clear H a; intro a H
          refine still_does H rfl (does_len sl_24 rfl) ?_; clear H a; intro a H
          refine still_does H rfl (does_move rfl) ?_; clear H a; intro a H
          refine wpStill_nil (hK23 _ ?_)
          clear hK23 K23
          refine wp_block ?_
          have hk2 : m = k := by omega
          subst hk2
          refine loop_st (X := Nat × IM) (R0 := _) [2, 8, 53, 54] H rfl (fun ⟨k, M⟩ => [(55, .int .i64 (k : Int))]) (fun ⟨k, M⟩ => [rowsM 3 (m + 1) (m + 1) rb rc (M)]) (fun g ⟨k, M⟩ => k ≤ l.length ∧ g + k = l.length ∧ gto (m + 1) l p (linksTo ⟨(m : Int), pitch, limit⟩ m) k = some M) (l.length) (0, linksTo ⟨(m : Int), pitch, limit⟩ m) ?_ (S.sel [0, 1, 2] rfl rfl) (H.keep [55, 2, 8, 53, 54] rfl) ?_
          · exact ⟨by omega, by omega, rfl⟩
          · intro g3 x3 a w3 hp S H K24 hK24
            obtain ⟨k, M⟩ := x3
            dsimp only at hp S H
            replace H := H.keep [2, 8, 53, 54, 55] rfl
            refine seq_still (fun K25 hK25 => ?_)
            refine still_does H rfl (does_lss rfl rfl) ?_; clear H a; intro a H
            refine wpStill_nil (hK25 _ ?_)
            clear hK25 K25
            refine wp_seq_k (fun K26 hK26 => ?_)
            refine cond_ H rfl (fun hc3 => ?_) (fun hc3 => ?_)
            · try simp only [Bool.or_eq_true, Bool.and_eq_true, Bool.not_eq_true', Bool.or_eq_false_iff, Bool.and_eq_false_iff, Bool.not_eq_false', decide_eq_true_eq, decide_eq_false_iff_not, Int.not_lt, Int.not_le] at hc3
              refine wp_skip ?_
              refine hK26 _ _ ?_
              refine wp_seq_k (fun K27 hK27 => ?_)
              refine wp_block ?_
              have hG : Good (m + 1) M := gto_good (c := ⟨(m : Int), pitch, limit⟩) (linksTo_ok hc0 (n := m + 1) (by omega) m (by omega)).1 hg k M (by omega) hp.2.2
              have hgk := getD_ok hg (show k < l.length by omega)
              unfold gaugeOk at hgk; simp only [decide_eq_true_eq] at hgk
              replace H := H.keep [2, 8, 53, 54, 55] rfl
              refine seq_list (fun K28 hK28 => ?_)
              refine list_does H rfl (does_move rfl) ?_; clear H a; intro a H
              refine list_does H rfl (by first | exact does_indexN sl_24 sz_48 rfl rfl (by first | exact hl.adr (by omega) | exact ownM.adr S (i := 1) rfl (by omega) | exact rfl) (by first | omega | omega) | exact does_index sl_24 sz_48 rfl rfl (by first | exact hl.adr (by omega) | exact ownM.adr S (i := 1) rfl (by omega) | exact rfl) (by omega) (by first | omega | omega)) ?_; clear H a; intro a H
              refine list_does H rfl (by first | exact does_loadIn agg_48 sz_48 rfl S hl (by omega) (by omega) | exact does_loadBox agg_48 sz_48 rfl S (i := 0) rfl rfl | exact does_loadBox agg_48 sz_48 rfl S (i := 1) rfl rfl | exact does_loadBox agg_48 sz_48 rfl S (i := 2) rfl rfl) ?_; clear H a; intro a H
              refine list_alloc H rfl S ze_48 ?_; clear H a S; intro b12 _ a hb12 hbw12 S H
              refine list_does H rfl (does_assign rfl) ?_; clear H a; intro a H
              first | (refine list_store H S (i := 0) rfl rfl rfl rfl sz_48 rfl rfl ?_) | (refine list_store H S (i := 1) rfl rfl rfl rfl sz_48 rfl rfl ?_) | (refine list_store H S (i := 2) rfl rfl rfl rfl sz_48 rfl rfl ?_) | (refine list_store H S (i := 3) rfl rfl rfl rfl sz_48 rfl rfl ?_) | (refine list_store_own H S (i := 0) rfl rfl rfl (by omega) (by omega) sz_48 rfl ?_) | (refine list_store_own H S (i := 1) rfl rfl rfl (by omega) (by omega) sz_48 rfl ?_) | (refine list_store_own H S (i := 2) rfl rfl rfl (by omega) (by omega) sz_48 rfl ?_) | (refine list_store_own H S (i := 3) rfl rfl rfl (by omega) (by omega) sz_48 rfl ?_)
              clear H a S; intro _ a S H
              refine hK28 _ _ ?_
              clear hK28 K28
              replace H := H.keep [2, 8, 11, 12, 53, 54, 55] rfl
              refine seq_list (fun K29 hK29 => ?_)
              refine list_does H rfl (does_move rfl) ?_; clear H a; intro a H
              refine list_does H rfl (does_move rfl) ?_; clear H a; intro a H
              refine list_callv (fs := []) (cs := caps) (vs := [.int .i64 (k : Int)]) H rfl rfl rfl hf hfb hfn (hcall k _ (by omega) S.keeps) ?_; clear H a; rintro _ _ a ⟨rfl, rfl⟩ H
              refine list_does H rfl (does_move rfl) ?_; clear H a; intro a H
              cases hg4 : p k
              case false =>
                rw [hg4] at H
                refine list_no H rfl rfl rfl rfl ?_; clear H a; intro a H
                refine list_no H rfl rfl rfl rfl ?_; clear H a; intro a H
                refine list_no H rfl rfl rfl rfl ?_; clear H a; intro a H
                refine list_no H rfl rfl rfl rfl ?_; clear H a; intro a H
                refine list_no H rfl rfl rfl rfl ?_; clear H a; intro a H
                refine list_no H rfl rfl rfl rfl ?_; clear H a; intro a H
                refine list_no H rfl rfl rfl rfl ?_; clear H a; intro a H
                refine list_no H rfl rfl rfl rfl ?_; clear H a; intro a H
                refine list_no H rfl rfl rfl rfl ?_; clear H a; intro a H
                refine list_does H rfl (by first | exact does_and rfl rfl rfl | exact does_pick rfl rfl rfl) ?_; clear H a; intro a H
                refine hK29 _ _ ?_
                clear hK29 K29
                refine cond_ H rfl (fun hc4 => ?_) (fun hc4 => ?_)
                · skip
                  cases hc4
                · skip
                  refine wp_skip ?_
                  refine hK27 _ _ ?_
                  replace H := H.keep [2, 8, 53, 54, 55] rfl
                  refine one_still ?_
                  refine still_does H rfl (does_add rfl rfl (by unfold i64ok; omega)) ?_; clear H a; intro a H
                  refine still_does H rfl (does_move rfl) ?_; clear H a; intro a H
                  refine wpStill_nil ?_
                  exact hK24 (g3 - 1) (k + 1, _) a _ (by omega) (⟨by omega, by omega, by first | exact gto_skip hp.2.2 hg4 | exact gto_on hp.2.2 hg4 (by simpa using hc5)⟩) (S.sel [1, 2, 3] rfl rfl) (H.keep [55, 2, 8, 53, 54] rfl)
              case true =>
                rw [hg4] at H
                refine list_yes H rfl rfl ?_
                refine list_does H rfl (does_move rfl) ?_; clear H a; intro a H
                refine list_yes H rfl rfl ?_
                refine list_does H rfl (by first | exact does_field_pt fo_48_0 rfl | exact does_field fo_48_0 rfl) ?_; clear H a; intro a H
                refine list_yes H rfl rfl ?_
                refine list_does H rfl (does_load one_3 rfl (by first | exact boxM.rd S (i := 0) rfl rfl | exact boxM.rd S (i := 1) rfl rfl | exact boxM.rd S (i := 2) rfl rfl | exact boxM.rd S (i := 3) rfl rfl)) ?_; clear H a; intro a H
                refine list_yes H rfl rfl ?_
                refine list_does H rfl (by first | exact does_field_pt fo_48_1 rfl | exact does_field fo_48_1 rfl) ?_; clear H a; intro a H
                refine list_yes H rfl rfl ?_
                refine list_does H rfl (does_load one_3 rfl (by first | exact boxM.rd S (i := 0) rfl rfl | exact boxM.rd S (i := 1) rfl rfl | exact boxM.rd S (i := 2) rfl rfl | exact boxM.rd S (i := 3) rfl rfl)) ?_; clear H a; intro a H
                refine list_yes H rfl rfl ?_
                refine list_does H rfl (by first | exact does_field_pt fo_48_2 rfl | exact does_field fo_48_2 rfl) ?_; clear H a; intro a H
                refine list_yes H rfl rfl ?_
                refine list_does H rfl (by first | exact does_loadIn agg_42 sz_42 rfl S hl (by omega) (by omega) | exact does_loadBox agg_42 sz_42 rfl S (i := 0) rfl rfl | exact does_loadBox agg_42 sz_42 rfl S (i := 1) rfl rfl | exact does_loadBox agg_42 sz_42 rfl S (i := 2) rfl rfl | exact does_loadBox agg_42 sz_42 rfl S (i := 3) rfl rfl) ?_; clear H a; intro a H
                refine list_yes H rfl rfl ?_
                have S1 := (S.sel [2, 1] rfl rfl)
                refine list_call H rfl rfl Try.func64 rfl rfl (web_tightenI (m + 1) (m + 1) W rb rc M (l.getD k Gauge.zero).fr (l.getD k Gauge.zero).to (l.getD k Gauge.zero).lo (l.getD k Gauge.zero).hi _ _ S1.startR (by omega) (by omega) (by omega) (by omega) (by omega) hG.bdd (by omega) (by omega)) ?_; clear H a
                rintro _ _ a ⟨rfl, S2⟩ H
                replace S := (S.sel [2, 1, 0, 3] rfl rfl).callR (M := [_, _]) S2; clear S1 S2
                refine list_yes H rfl rfl ?_
                refine list_does H rfl (does_not rfl) ?_; clear H a; intro a H
                refine list_does H rfl (by first | exact does_and rfl rfl rfl | exact does_pick rfl rfl rfl) ?_; clear H a; intro a H
                refine hK29 _ _ ?_
                clear hK29 K29
                refine cond_ H rfl (fun hc5 => ?_) (fun hc5 => ?_)
                · try simp only [Bool.or_eq_true, Bool.and_eq_true, Bool.not_eq_true', Bool.or_eq_false_iff, Bool.and_eq_false_iff, Bool.not_eq_false', decide_eq_true_eq, decide_eq_false_iff_not, Int.not_lt, Int.not_le] at hc5
                  replace H := H.keep [] rfl
                  refine seq_still (fun K31 hK31 => ?_)
                  refine still_does H rfl (does_assign rfl) ?_; clear H a; intro a H
                  refine still_does H rfl (does_assign rfl) ?_; clear H a; intro a H
                  refine wpStill_nil (hK31 _ ?_)
                  clear hK31 K31
                  refine wp_ret ?_
                  refine ret2 (fn := Try.f80) rfl H rfl rfl ?_
                  have e : weaveW ⟨(m : Int), pitch, limit⟩ l p = none := gto_fail (n := m + 1) (by omega) hp.2.2 hg4 (by simpa using hc5)
                  show Woven _ _ _ _ _; rw [e]; exact ⟨rfl, (S.sel [] rfl rfl)⟩
                · try simp only [Bool.or_eq_true, Bool.and_eq_true, Bool.not_eq_true', Bool.or_eq_false_iff, Bool.and_eq_false_iff, Bool.not_eq_false', decide_eq_true_eq, decide_eq_false_iff_not, Int.not_lt, Int.not_le] at hc5
                  refine wp_skip ?_
                  refine hK27 _ _ ?_
                  replace H := H.keep [2, 8, 53, 54, 55] rfl
                  refine one_still ?_
                  refine still_does H rfl (does_add rfl rfl (by unfold i64ok; omega)) ?_; clear H a; intro a H
                  refine still_does H rfl (does_move rfl) ?_; clear H a; intro a H
                  refine wpStill_nil ?_
                  exact hK24 (g3 - 1) (k + 1, _) a _ (by omega) (⟨by omega, by omega, by first | exact gto_skip hp.2.2 hg4 | exact gto_on hp.2.2 hg4 (by simpa using hc5)⟩) (S.sel [1, 0, 3] rfl rfl) (H.keep [55, 2, 8, 53, 54] rfl)
            · try simp only [Bool.or_eq_true, Bool.and_eq_true, Bool.not_eq_true', Bool.or_eq_false_iff, Bool.and_eq_false_iff, Bool.not_eq_false', decide_eq_true_eq, decide_eq_false_iff_not, Int.not_lt, Int.not_le] at hc3
              refine wp_exit ?_
              refine hK22 _ _ ?_
              replace H := H.keep [8] rfl
              refine seq_still (fun K33 hK33 => ?_)
              refine still_does H rfl (does_move rfl) ?_; clear H a; intro a H
              refine still_does H rfl (does_assign rfl) ?_; clear H a; intro a H
              refine still_does H rfl (does_assign rfl) ?_; clear H a; intro a H
              refine wpStill_nil (hK33 _ ?_)
              clear hK33 K33
              refine wp_ret ?_
              refine ret2 (fn := Try.f80) rfl H rfl rfl ?_
              have hk3 : k = l.length := by omega
              have e : weaveW ⟨(m : Int), pitch, limit⟩ l p = some M := by
                show gto (m + 1) l p (linksTo ⟨(m : Int), pitch, limit⟩ m) l.length = some M
                rw [← hk3]; exact hp.2.2
              show Woven _ _ _ _ _; rw [e]; exact ⟨W, rb, rc, rfl, (S.sel [1, 0] rfl rfl)⟩

end Go.Proofs.Ytlejjfhgfajoiaa
